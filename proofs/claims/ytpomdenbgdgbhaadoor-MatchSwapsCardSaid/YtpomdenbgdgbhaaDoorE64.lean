/- Walks: layer 12, a pattern's steps made. -/
import Derived.Test.YtpomdenbgdgbhaaDoorE63
set_option linter.unusedVariables false
set_option linter.unusedSimpArgs false
set_option maxRecDepth 100000
namespace Go.SK
open Go Go.RowKit Go.Proofs
variable {S : Nat → Prop} {w0 : World} {F L : List Res}
def MsOk (rs : List Res) (m : MS) : Prop := m.2.oneCell' = true ∧ Res.rd m.2 2 m.1.set.length (spC m.1.set) ∈ rs
/-- What is made of a part: its steps; or there are too many. -/
structure NRes (rs : List Res) (base sz : Nat) (want : List StP) (ms ks : List MS) (b : Bool) (mv' : Value) : Prop where
  one : mv'.oneCell' = true
  ok : ∀ m ∈ ks, MsOk rs m
  len : ms.length + ks.length ≤ max base (2000 + 2 * sz)
  ent : b = true → ms.length ≤ 2000
  yes : b = true → ks.map Prod.fst = want
  no : b = false → 2000 < ms.length + want.length
abbrev mkBlk (g : Nat) (mv : Value) : Res := .blk g (.cells [mv].toArray 151 (0, 0))
abbrev mkRow (mv : Value) (ms : List MS) : Res := .row mv 156 5 ms.length (msC ms)
def HNode (t : Nd) : Prop := ∀ (S : Nat → Prop) (w0 : World) (F : List Res) (rs : List Res) (v : Value) (g : Nat) (mv : Value) (ms : List MS), fz rs ∈ F → Res.rd nilS 2 0 [] ∈ rs → PNd rs t v → mv.oneCell' = true → (∀ m ∈ ms, MsOk rs m) → ms.length ≤ 5000 → t.size ≤ 500 →
  CallX Tryd.prog 93 [ptrV g, v] S w0 (mkBlk g mv :: mkRow mv ms :: F) (fun u L' => ∃ b mv' ks, u = .bool b ∧ NRes rs ms.length t.size (pcN t ms.length) ms ks b mv' ∧ L' = mkBlk g mv' :: mkRow mv' (ms ++ ks) :: F)
def HAlt (k : List Nd) : Prop := ∀ (S : Nat → Prop) (w0 : World) (F : List Res) (rs : List Res) (kv : Value) (vs : List Value) (g : Nat) (mv : Value) (ms : List MS), fz rs ∈ F → Res.rd nilS 2 0 [] ∈ rs → Rdb F kv 1 vs.length vs → PNds rs k vs → k ≠ [] → mv.oneCell' = true → (∀ m ∈ ms, MsOk rs m) → ms.length ≤ 4990 → sizes k ≤ 500 → (∀ x ∈ k, HNode x) →
  CallX Tryd.prog 127 [ptrV g, kv] S w0 (mkBlk g mv :: mkRow mv ms :: F) (fun u L' => ∃ b mv' ks, u = .bool b ∧ NRes rs (ms.length + 1) (sizes k + 1) (pcA k ms.length) ms ks b mv' ∧ L' = mkBlk g mv' :: mkRow mv' (ms ++ ks) :: F)
theorem ok_snoc {rs : List Res} {ms ks : List MS} (h : ∀ m ∈ ms, MsOk rs m) (hk : ∀ m ∈ ks, MsOk rs m) : ∀ m ∈ ms ++ ks, MsOk rs m := fun m hm => by
  rcases List.mem_append.1 hm with hm | hm
  · exact h m hm
  · exact hk m hm
theorem ok_cons {rs : List Res} {m : MS} {ks : List MS} (h : MsOk rs m) (hk : ∀ m ∈ ks, MsOk rs m) : ∀ x ∈ m :: ks, MsOk rs x := fun x hx => by
  rcases List.mem_cons.1 hx with rfl | hx
  · exact h
  · exact hk x hx
theorem ok_nil {rs : List Res} {k : Int} {x y : Nat} (h : Res.rd nilS 2 0 [] ∈ rs) : MsOk rs (⟨k, false, [], x, y⟩, nilS) := ⟨rfl, h⟩
theorem PNds.split {rs : List Res} {k : List Nd} {vs : List Value} (h : PNds rs k vs) (hne : k ≠ []) (h1 : vs.length ≠ 1) : ∃ t v k' vs', k = t :: k' ∧ vs = v :: vs' ∧ PNd rs t v ∧ PNds rs k' vs' ∧ k' ≠ [] := by
  cases k with
  | nil => exact absurd rfl hne
  | cons t k' =>
    unfold PNds at h
    obtain ⟨v, r, rfl, a, b⟩ := h
    refine ⟨t, v, k', r, rfl, rfl, a, b, ?_⟩
    rintro rfl
    unfold PNds at b
    subst b
    exact h1 rfl
theorem rdb_tail {v a : Value} {r : List Value} (h : Rdb L v 1 (a :: r).length (a :: r)) : Rdb L (Value.cut v 1 (a :: r).length 1) 1 r.length r := by
  have := h.cut 1 (a :: r).length (by simp) (Nat.le_refl _)
  simp only [Nat.mul_one, List.length_cons, Nat.add_sub_cancel, List.drop_succ_cons, List.drop_zero] at this ⊢
  rw [List.take_of_length_le (by omega)] at this
  exact this
theorem pcA_one (t : Nd) (b : Nat) : pcA [t] b = pcN t b := by rw [pcA]; rfl
theorem pcA_more (t : Nd) {r : List Nd} (h : r ≠ []) (b : Nat) : pcA (t :: r) b = stB (b + 1) (b + clen t + 2) :: (pcN t (b + 1) ++ (stB (b + clen t + 2 + (clens r + 2 * (r.length - 1))) (b + clen t + 2 + (clens r + 2 * (r.length - 1))) :: pcA r (b + clen t + 2))) := by
  rw [pcA, if_neg (by cases r with | nil => exact absurd rfl h | cons _ _ => simp), Nat.add_assoc (b + clen t + 2)]
section
variable {rs : List Res} {t : Nd} {r : List Nd} {ms kA kB : List MS} {f f' j j' : MS} {w : Value} {b : Bool}
theorem alt_one (h : NRes rs ms.length t.size (pcN t ms.length) ms kA b w) : NRes rs (ms.length + 1) (sizes [t] + 1) (pcA [t] ms.length) ms kA b w := by
  have e : sizes [t] = t.size := by simp [sizes]
  have := h.len
  exact ⟨h.one, h.ok, by omega, h.ent, by rw [pcA_one]; exact h.yes, by rw [pcA_one]; exact h.no⟩
theorem alt_fail1 (hr : r ≠ []) (hf : MsOk rs f) (h : NRes rs (ms ++ [f]).length t.size (pcN t (ms ++ [f]).length) (ms ++ [f]) kA false w) : NRes rs (ms.length + 1) (sizes (t :: r) + 1) (pcA (t :: r) ms.length) ms (f :: kA) false w := by
  have h1 := h.len
  have h2 := h.no rfl
  have e : (ms ++ [f]).length = ms.length + 1 := by simp
  rw [pcN_len] at h2
  refine ⟨h.one, ok_cons hf h.ok, ?_, (fun e => by cases e), (fun e => by cases e), fun _ => ?_⟩
  · simp only [sizes, List.length_cons]; omega
  · rw [pcA_more t hr]; simp only [List.length_cons, List.length_append, pcN_len]; omega
theorem alt_len1 (h : NRes rs (ms ++ [f]).length t.size (pcN t (ms ++ [f]).length) (ms ++ [f]) kA true w) : kA.length = clen t ∧ ms.length + 1 ≤ 2000 ∧ ms.length + 1 + clen t ≤ 2000 + 2 * t.size := by
  have h1 := congrArg List.length (h.yes rfl)
  rw [List.length_map, pcN_len] at h1
  have h2 := h.ent rfl
  have h3 := h.len
  have e : (ms ++ [f]).length = ms.length + 1 := by simp
  exact ⟨h1, by omega, by omega⟩
theorem alt_fail2 (hr : r ≠ []) (hf : MsOk rs f) (hj : MsOk rs j) (h : NRes rs (ms ++ [f']).length t.size (pcN t (ms ++ [f']).length) (ms ++ [f']) kA true w) {w' : Value} (h' : NRes rs ((ms ++ f :: (kA ++ [j])).length + 1) (sizes r + 1) (pcA r (ms ++ f :: (kA ++ [j])).length) (ms ++ f :: (kA ++ [j])) kB false w') :
    NRes rs (ms.length + 1) (sizes (t :: r) + 1) (pcA (t :: r) ms.length) ms (f :: (kA ++ j :: kB)) false w' := by
  obtain ⟨a1, a2, a3⟩ := alt_len1 h
  have h1 := h'.len
  have h2 := h'.no rfl
  have e : (ms ++ f :: (kA ++ [j])).length = ms.length + clen t + 2 := by simp; omega
  rw [e] at h1 h2
  refine ⟨h'.one, ok_cons hf (ok_snoc h.ok (ok_cons hj h'.ok)), ?_, (fun e => by cases e), (fun e => by cases e), fun _ => ?_⟩
  · simp only [sizes, List.length_cons, List.length_append]; omega
  · rw [pcA_more t hr]; simp only [List.length_cons, List.length_append, pcN_len, pcA_len] at h2 ⊢; omega
theorem alt_done (hr : r ≠ []) (hn : Res.rd nilS 2 0 [] ∈ rs) (h : NRes rs (ms ++ [f']).length t.size (pcN t (ms ++ [f']).length) (ms ++ [f']) kA true w) {w' : Value} (h' : NRes rs ((ms ++ f :: (kA ++ [j])).length + 1) (sizes r + 1) (pcA r (ms ++ f :: (kA ++ [j])).length) (ms ++ f :: (kA ++ [j])) kB true w') :
    NRes rs (ms.length + 1) (sizes (t :: r) + 1) (pcA (t :: r) ms.length) ms ((stB (ms.length + 1) (ms.length + clen t + 2), nilS) :: (kA ++ (stB (ms.length + clen t + 2 + (clens r + 2 * (r.length - 1))) (ms.length + clen t + 2 + (clens r + 2 * (r.length - 1))), nilS) :: kB)) true w' := by
  obtain ⟨a1, a2, a3⟩ := alt_len1 h
  have h1 := h'.len
  have e : (ms ++ f :: (kA ++ [j])).length = ms.length + clen t + 2 := by simp; omega
  have e1 : (ms ++ [f']).length = ms.length + 1 := by simp
  have h2 := h'.yes rfl
  have h3 := h.yes rfl
  rw [e] at h1 h2
  rw [e1] at h3
  refine ⟨h'.one, ok_cons (ok_nil hn) (ok_snoc h.ok (ok_cons (ok_nil hn) h'.ok)), ?_, (fun _ => by omega), (fun _ => ?_), (fun e => by cases e)⟩
  · simp only [sizes, List.length_cons, List.length_append]; omega
  · rw [pcA_more t hr]; simp only [List.map_cons, List.map_append, h2, h3]
end
theorem malt_x (rs : List Res) (g : Nat) (mv : Value) (ms : List MS) (k : List Nd) (kv : Value) (vs : List Value) (hz : fz rs ∈ F) (hn : Res.rd nilS 2 0 [] ∈ rs) (hkv : Rdb F kv 1 vs.length vs) (hvs : PNds rs k vs) (hne : k ≠ []) (hmv : mv.oneCell' = true) (hms : ∀ m ∈ ms, MsOk rs m) (hb : ms.length ≤ 4990) (hsz : sizes k ≤ 500) (hK : ∀ x ∈ k, HNode x) (ih : ∀ k' : List Nd, k'.length < k.length → HAlt k') :
    CallX Tryd.prog 127 [.pointer (some ⟨g, 0, none⟩), kv] S w0 (.blk g (.cells [mv].toArray 151 (0, 0)) :: .row mv 156 5 (ms).length (msC (ms)) :: F) (fun u L' => ∃ b mv' ks, u = .bool b ∧ NRes rs (ms.length + 1) (sizes k + 1) (pcA k ms.length) ms ks b mv' ∧ L' = mkBlk g mv' :: mkRow mv' (ms ++ ks) :: F) := by
 intro w hp
 refine calls_start Tryd.func127 rfl rfl rfl (hp) ?_
 refine TC.seq (TC.region (TL.as rfl rfl (TL.nil (TQ.then (TC.seq (TC.seq (TC.region (TL.mv rfl rfl (TL.opV rfl (op_lenV rfl un_sl_p_match_node rfl hkv.cons.cons) (TL.opP rfl (op_eql rfl rfl) (TL.nil (TQ.then ?_))))))))))))
 refine TC.sp rfl (fun c1 => ?_) (fun c1 => ?_)
 ·obtain ⟨v0, rfl⟩ : ∃ v0, vs = [v0] := List.length_eq_one_iff.1 (by omega)
  obtain ⟨t0, rfl, hP0⟩ := hvs.single
  have hs0 : sizes [t0] = t0.size := by simp [sizes]
  refine TC.seq (TC.region (TL.mv rfl rfl (TL.mv rfl rfl (TL.opV rfl (op_index tsl_p_match_node rfl hkv.cons.cons rfl (by simp) (by simp)) (TL.opV rfl (op_loadR ts_p_match_node rfl hkv.cons.cons rfl) ?_)))))
  refine TL.opX rfl (OpX.callX en_93 rfl (hK t0 (.head _) _ _ _ rs v0 g mv ms hz hn hP0 hmv hms (by omega) (by omega))) ?_; rintro _ _ ⟨bA1, vA1, kA1, rfl, hA1, rfl⟩
  refine TL.as rfl rfl (TL.nil (TQ.then (TC.ret (TQ.then_ret ?_))))
  refine ret1 rfl rfl (fun w' hp => ?_)
  exact ⟨_, _, rfl, ⟨_, _, _, rfl, (alt_one hA1), rfl⟩, by have h := (hp); simpa only [List.append_assoc, List.cons_append, List.nil_append] using h⟩
 ·obtain ⟨t0, v0, kr, vr, rfl, rfl, hP0, hPr, hkr⟩ := hvs.split hne (by omega)
  have hs0 : sizes (t0 :: kr) = t0.size + sizes kr := by simp [sizes]
  refine TC.skip (TQ.then (TC.seq (TC.region (TL.mv rfl rfl (TL.opP rfl (op_build (ps := #[(0, _)]) rfl (bl_match_step_0 _)) ?_)))))
  refine TL.opX rfl (OpX.callX en_94 rfl (madd_x g mv (ms) hmv (fun m hm => (hms m hm).1) (stB 0 0) nilS rfl (by first | omega | (simp only [List.length_append, List.length_cons, List.length_nil]; omega)))) ?_; rintro _ _ ⟨wB2, rfl, hwB2, rfl⟩
  refine TL.as rfl rfl (TL.nil (TQ.then (TC.seq (TC.region (TL.mv rfl rfl (TL.opP rfl (op_nilCheck rfl) (TL.opP rfl (op_field fld_match_maker_l rfl) (TL.opV rfl (op_load ts_sl_match_step rfl m0 rfl) (TL.mv rfl rfl (TL.mv rfl rfl (TL.opP rfl (op_add (r := ((ms.length + 1 : Nat) : Int)) rfl rfl (by omega) (by omega) (by omega)) ?_)))))))))))
  refine TL.opV rfl (op_index tsl_match_step rfl rw1 rfl (by first | omega | (simp only [List.length_append, List.length_cons, List.length_nil]; omega)) (by first | omega | (simp only [List.length_append, List.length_cons, List.length_nil]; omega))) ?_
  refine TL.opP rfl (op_fieldA fld_match_step_x rfl) (TL.hp (fun _ h => h.pick1) ?_)
  refine TL.opX0 (OpX.storeRow (k := 1) (fun w => by kernel_rfl) rfl rfl rfl (ys := [.int .i64 ((ms.length + 1 : Nat) : Int)]) rfl (by decide) (List.all_eq_true.1 rfl) (by first | omega | (simp only [List.length_append, List.length_cons, List.length_nil]; omega)) (st_x (sv := nilS) (A := ms) (B := []) (s := stB 0 0) (s' := stB (ms.length + 1) 0) rfl rfl (by omega))) ?_; rintro _ _ rfl
  refine TL.hp (fun _ h => row_lenMS h) (TL.nil (TQ.then (TC.seq (TC.seq (TC.region (TL.mv rfl rfl (TL.mv rfl rfl (TL.opV rfl (op_index tsl_p_match_node rfl hkv.cons.cons rfl (by simp) (by simp)) (TL.opV rfl (op_loadR ts_p_match_node rfl hkv.cons.cons rfl) (TL.hp (fun _ h => h.pick1) ?_))))))))))
  refine TL.opX rfl (OpX.callX en_93 rfl (hK t0 (.head _) _ _ _ rs v0 g wB2 (ms ++ [(stB (ms.length + 1) 0, nilS)]) hz hn hP0 hwB2 (ok_snoc hms (ok_cons (ok_nil hn) (fun _ h => by cases h))) (by first | omega | (simp only [List.length_append, List.length_cons, List.length_nil]; omega)) (by omega))) ?_; rintro _ _ ⟨bA3, vA3, kA3, rfl, hA3, rfl⟩
  refine TL.opP rfl (op_not rfl rfl) (TL.nil (TQ.then ?_))
  refine TC.sp rfl (fun c2 => ?_) (fun c2 => ?_)
  ·obtain rfl : bA3 = false := by simpa using c2
   refine TC.seq (TC.region (TL.as rfl rfl (TL.nil (TQ.then (TC.ret (TQ.then_ret ?_))))))
   refine ret1 rfl rfl (fun w' hp => ?_)
   exact ⟨_, _, rfl, ⟨_, _, _, rfl, (alt_fail1 hkr (ok_nil hn) hA3), rfl⟩, by have h := (hp); simpa only [List.append_assoc, List.cons_append, List.nil_append] using h⟩
  ·obtain rfl : bA3 = true := by simpa using c2
   obtain ⟨a1, a2, a3⟩ := alt_len1 hA3
   have hX : (ms ++ [(stB (ms.length + 1) 0, nilS)] ++ kA3 ++ [(stB 0 0, nilS)]).length = ms.length + clen t0 + 2 := by (simp only [List.length_append, List.length_cons, List.length_nil]; omega)
   have hY : (ms ++ [(stB (ms.length + 1) 0, nilS)] ++ kA3).length = ms.length + clen t0 + 1 := by (simp only [List.length_append, List.length_cons, List.length_nil]; omega)
   refine TC.skip (TQ.then (TC.seq (TC.region (TL.mv rfl rfl (TL.opP rfl (op_build (ps := #[(0, _)]) rfl (bl_match_step_0 _)) ?_)))))
   refine TL.opX rfl (OpX.callX en_94 rfl (madd_x g vA3 (ms ++ [(stB (ms.length + 1) 0, nilS)] ++ kA3) hA3.one (fun m hm => ((ok_snoc (ok_snoc hms (ok_cons (ok_nil hn) (fun _ h => by cases h))) hA3.ok) m hm).1) (stB 0 0) nilS rfl (by first | omega | (simp only [List.length_append, List.length_cons, List.length_nil]; omega)))) ?_; rintro _ _ ⟨wC4, rfl, hwC4, rfl⟩
   rw [hY]
   refine TL.as rfl rfl (TL.nil (TQ.then (TC.seq (TC.draw [12] (.cons (.p, 0) (.cons (.p, 1) (.cons (.p, 2) (.cons (.p, 4) (.cons (.p, 5) (.cons (.p, 6) (.cons (.p, 7) (.cons (.t, 3) (.cons (.t, 8) (.cons (.t, 9) (.cons (.t, 10) (.cons (.p, 11) (.cons (.z, 12) (.nil)))))))))))))) mo (by kernel_rfl) (TR.p rfl rfl wt0 (op_move rfl) (TR.p rfl rfl wt0 (op_nilCheck rfl) (TR.p rfl rfl wt0 (op_field fld_match_maker_l rfl) (TR.p rfl rfl wt0 (op_move rfl) (TR.p rfl rfl wt0 (op_move rfl) (TR.p rfl rfl wt0 (op_nilCheck rfl) (TR.p rfl rfl wt0 (op_field fld_match_maker_l rfl) (TR.t rfl rfl wt0 (op_load ts_sl_match_step rfl m0 rfl) (fun _ h => h) (TR.t rfl rfl wt0 (op_load ts_sl_match_step rfl m0 rfl) (fun _ h => h) ?_)))))))))))))
   refine TR.t rfl rfl wt0 (op_lenV rfl un_sl_match_step rfl rw1) (fun _ h => h) ?_
   rw [hX]
   refine TR.t rfl rfl wt0 (op_index tsl_match_step rfl rw1 rfl (by first | omega | (simp only [List.length_append, List.length_cons, List.length_nil]; omega)) (by first | omega | (simp only [List.length_append, List.length_cons, List.length_nil]; omega))) (fun _ h => h) ?_
   refine TR.p rfl rfl wt0 (op_fieldA fld_match_step_y rfl) (TR.hp (fun _ h => h.pick1) ?_)
   refine TR.z0 rfl wt0 (OpX.storeRow (k := 1) (fun w => by kernel_rfl) rfl rfl rfl (ys := [.int .i64 ((ms.length + clen t0 + 2 : Nat) : Int)]) rfl (by decide) (List.all_eq_true.1 rfl) (by first | omega | (simp only [List.length_append, List.length_cons, List.length_nil]; omega)) (st_y (sv := nilS) (A := ms) (B := kA3 ++ [(stB 0 0, nilS)]) (s := stB (ms.length + 1) 0) (s' := stB (ms.length + 1) (ms.length + clen t0 + 2)) (by simp) rfl (by omega))) ?_; rintro _ _ rfl
   refine TR.hp (fun _ h => row_lenMS h) (TR.nil (TQ.then (TC.seq (TC.seq (TC.region (TL.mv rfl rfl (TL.mv rfl rfl (TL.opV rfl (op_cut 1 (v0 :: vr).length tsl_p_match_node rfl hkv.cons.cons (vlo := (some _)) (vhi := none) rfl rfl (.inr ⟨_, _, rfl, by first | omega | simp⟩) (.inl ⟨rfl, rfl⟩) (by first | omega | simp) (by first | omega | simp)) (TL.hp (fun _ h => h.pick1) ?_)))))))))
   refine TL.opX rfl (OpX.callX en_127 rfl (ih kr (by simp) _ _ _ rs (Value.cut kv 1 (v0 :: vr).length 1) vr g wC4 (ms ++ (stB (ms.length + 1) (ms.length + clen t0 + 2), nilS) :: (kA3 ++ [(stB 0 0, nilS)])) hz hn (rdb_tail hkv) hPr hkr hwC4 (ok_snoc hms (ok_cons (ok_nil hn) (ok_snoc hA3.ok (ok_cons (ok_nil hn) (fun _ h => by cases h))))) (by first | omega | (simp only [List.length_append, List.length_cons, List.length_nil]; omega)) (by omega) (fun x hx => hK x (.tail _ hx)))) ?_; rintro _ _ ⟨bD5, vD5, kD5, rfl, hD5, rfl⟩
   refine TL.hp (fun _ h => h.pick1) ?_
   refine TL.know (fun _ h => row_shape h) (fun hshp => (TL.opP rfl (op_not rfl rfl) (TL.nil (TQ.then ?_))))
   refine TC.sp rfl (fun c3 => ?_) (fun c3 => ?_)
   ·obtain rfl : bD5 = false := by simpa using c3
    refine TC.seq (TC.region (TL.as rfl rfl (TL.nil (TQ.then (TC.ret (TQ.then_ret ?_))))))
    refine ret1 rfl rfl (fun w' hp => ?_)
    exact ⟨_, _, rfl, ⟨_, _, _, rfl, (alt_fail2 hkr (ok_nil hn) (ok_nil hn) hA3 hD5), rfl⟩, by have h := (hp.pick1); simpa only [List.append_assoc, List.cons_append, List.nil_append] using h⟩
   ·obtain rfl : bD5 = true := by simpa using c3
    have hZ : (ms ++ (stB (ms.length + 1) (ms.length + clen t0 + 2), nilS) :: (kA3 ++ [(stB 0 0, nilS)]) ++ kD5).length = ms.length + clen t0 + 2 + (clens kr + 2 * (kr.length - 1)) := by
      have := congrArg List.length (hD5.yes rfl)
      rw [List.length_map, pcA_len] at this
      (simp only [List.length_append, List.length_cons, List.length_nil]; omega)
    refine TC.skip (TQ.then (TC.seq (TC.drawS (mkBlk g vD5 :: F) [22, 25] (.cons (.p, 0) (.cons (.p, 1) (.cons (.p, 2) (.cons (.p, 4) (.cons (.p, 5) (.cons (.p, 6) (.cons (.p, 7) (.cons (.p, 9) (.cons (.p, 10) (.cons (.p, 11) (.cons (.p, 12) (.cons (.p, 15) (.cons (.p, 16) (.cons (.p, 17) (.cons (.t, 3) (.cons (.t, 8) (.cons (.t, 13) (.cons (.p, 14) (.cons (.t, 18) (.cons (.p, 19) (.cons (.p, 20) (.cons (.p, 21) (.cons (.z, 22) (.cons (.p, 23) (.cons (.p, 24) (.cons (.z, 25) (.nil))))))))))))))))))))))))))) mo (by kernel_rfl) (TR.p rfl rfl wt0 (op_move rfl) (TR.p rfl rfl wt0 (op_nilCheck rfl) (TR.p rfl rfl wt0 (op_field fld_match_maker_l rfl) (TR.p rfl rfl wt0 (op_move rfl) (TR.p rfl rfl wt0 (op_move rfl) ?_))))))))
    refine TR.p rfl rfl wt0 (op_nilCheck rfl) (TR.p rfl rfl wt0 (op_field fld_match_maker_l rfl) (TR.p rfl rfl wt0 (op_move rfl) (TR.p rfl rfl wt0 (op_move rfl) (TR.p rfl rfl wt0 (op_nilCheck rfl) (TR.p rfl rfl wt0 (op_field fld_match_maker_l rfl) (TR.p rfl rfl wt0 (op_move rfl) (TR.p rfl rfl wt0 (op_nilCheck rfl) (TR.p rfl rfl wt0 (op_field fld_match_maker_l rfl) (TR.t rfl rfl wt0 (op_load ts_sl_match_step rfl m0 rfl) (fun _ h => h.tail) (TR.t rfl rfl wt0 (op_load ts_sl_match_step rfl m0 rfl) (fun _ h => h.tail) (TR.t rfl rfl wt0 (op_load ts_sl_match_step rfl m0 rfl) (fun _ h => h.tail) (TR.p rfl rfl wt0 (op_lenP rfl un_sl_match_step rfl hshp) ?_))))))))))))
    rw [hZ]
    refine TR.t rfl rfl wt0 (op_load ts_sl_match_step rfl m0 rfl) (fun _ h => h.tail) (TR.p rfl rfl wt0 (op_lenP rfl un_sl_match_step rfl hshp) ?_)
    rw [hZ]
    refine TR.p rfl rfl wt0 (op_indexP tsl_match_step rfl hshp rfl (by omega) (by first | omega | (simp only [List.length_append, List.length_cons, List.length_nil]; omega))) ?_
    refine TR.p rfl rfl wt0 (op_fieldA fld_match_step_x rfl) ?_
    refine TR.z0 rfl wt0 (OpX.storeRow (k := 1) (fun w => by kernel_rfl) rfl rfl rfl (ys := [.int .i64 ((ms.length + clen t0 + 2 + (clens kr + 2 * (kr.length - 1)) : Nat) : Int)]) rfl (by decide) (List.all_eq_true.1 rfl) (by first | omega | (simp only [List.length_append, List.length_cons, List.length_nil]; omega)) (st_x (sv := nilS) (A := ms ++ (stB (ms.length + 1) (ms.length + clen t0 + 2), nilS) :: kA3) (B := kD5) (s := stB 0 0) (s' := stB (ms.length + clen t0 + 2 + (clens kr + 2 * (kr.length - 1))) 0) (by simp) rfl (by first | omega | (simp only [List.length_append, List.length_cons, List.length_nil]; omega)))) ?_; rintro _ _ rfl
    refine TR.hp (fun _ h => row_lenMS h) ?_
    refine TR.p rfl rfl wt0 (op_indexP tsl_match_step rfl hshp rfl (by omega) (by first | omega | (simp only [List.length_append, List.length_cons, List.length_nil]; omega))) ?_
    refine TR.p rfl rfl wt0 (op_fieldA fld_match_step_y rfl) ?_
    refine TR.z0 rfl wt0 (OpX.storeRow (k := 1) (fun w => by kernel_rfl) rfl rfl rfl (ys := [.int .i64 ((ms.length + clen t0 + 2 + (clens kr + 2 * (kr.length - 1)) : Nat) : Int)]) rfl (by decide) (List.all_eq_true.1 rfl) (by first | omega | (simp only [List.length_append, List.length_cons, List.length_nil]; omega)) (st_y (sv := nilS) (A := ms ++ (stB (ms.length + 1) (ms.length + clen t0 + 2), nilS) :: kA3) (B := kD5) (s := stB (ms.length + clen t0 + 2 + (clens kr + 2 * (kr.length - 1))) 0) (s' := stB (ms.length + clen t0 + 2 + (clens kr + 2 * (kr.length - 1))) (ms.length + clen t0 + 2 + (clens kr + 2 * (kr.length - 1)))) rfl rfl (by first | omega | (simp only [List.length_append, List.length_cons, List.length_nil]; omega)))) ?_; rintro _ _ rfl
    refine TR.hp (fun _ h => row_lenMS h) (TR.nil (TQ.then (TC.seq (TC.region (TL.as rfl rfl (TL.nil (TQ.then (TC.ret ?_))))))))
    refine ret1 rfl rfl (fun w' hp => ?_)
    exact ⟨_, _, rfl, ⟨_, _, _, rfl, (alt_done hkr hn hA3 hD5), rfl⟩, by have h := (hp.pick1); simpa only [List.append_assoc, List.cons_append, List.nil_append] using h⟩

theorem halt : ∀ (n : Nat) (k : List Nd), k.length ≤ n → HAlt k
  | 0, k, h => fun S w0 F rs kv vs g mv ms hz hn hkv hvs hne => absurd (List.length_eq_zero_iff.1 (Nat.le_zero.1 h)) hne
  | n + 1, k, h => fun S w0 F rs kv vs g mv ms hz hn hkv hvs hne hmv hms hb hsz hK => malt_x rs g mv ms k kv vs hz hn hkv hvs hne hmv hms hb hsz hK (fun k' hk => halt n k' (by omega))
theorem row_conv {S : Nat → Prop} {w0 w : World} {L : List Res} {v : Value} {e m : Nat} {X Y : List MS} (h : Hp S w0 w (.row v e 5 m (msC X) :: L)) (hXY : X = Y) : Hp S w0 w (.row v e 5 Y.length (msC Y) :: L) := by subst hXY; exact row_lenMS h
/-! ### So many times, each as one likes -/
def asm (c e : Nat) (lz : Bool) : Nat → Nat → List (List MS) → List MS
  | _, _, [] => []
  | b, 0, kb :: r => (stB 0 0, nilS) :: (kb ++ asm c e lz (b + 1 + c) 0 r)
  | b, p + 1, kb :: r => (fork (b + 1) e lz, nilS) :: (kb ++ asm c e lz (b + 1 + c) p r)
def Kids (f : Nat → List StP) (c : Nat) : Nat → List (List MS) → Prop
  | _, [] => True
  | b, kb :: r => kb.map Prod.fst = f (b + 1) ∧ kb.length = c ∧ Kids f c (b + 1 + c) r
section
variable {f : Nat → List StP} {c e : Nat} {lz : Bool} {rs : List Res}
theorem asm_len : ∀ (bs : List (List MS)) (b p : Nat), Kids f c b bs → (asm c e lz b p bs).length = bs.length * (c + 1)
  | [], b, p, h => by simp [asm]
  | kb :: r, b, 0, h => by
    obtain ⟨_, h2, h3⟩ := h
    rw [asm, List.length_cons, List.length_append, asm_len r _ 0 h3, h2, List.length_cons, Nat.succ_mul]; omega
  | kb :: r, b, p + 1, h => by
    obtain ⟨_, h2, h3⟩ := h
    rw [asm, List.length_cons, List.length_append, asm_len r _ p h3, h2, List.length_cons, Nat.succ_mul]; omega
theorem asm_snoc (kb : List MS) : ∀ (bs : List (List MS)) (b : Nat), asm c e lz b 0 (bs ++ [kb]) = asm c e lz b 0 bs ++ (stB 0 0, nilS) :: kb
  | [], b => by simp [asm]
  | x :: r, b => by rw [List.cons_append, asm, asm, asm_snoc kb r]; simp
theorem Kids.snoc {kb : List MS} : ∀ (bs : List (List MS)) (b : Nat), Kids f c b bs → kb.map Prod.fst = f (b + bs.length * (c + 1) + 1) → kb.length = c → Kids f c b (bs ++ [kb])
  | [], b, h, h1, h2 => ⟨by simpa using h1, h2, trivial⟩
  | x :: r, b, h, h1, h2 => ⟨h.1, h.2.1, Kids.snoc r _ h.2.2 (by rw [h1, List.length_cons, Nat.succ_mul]; congr 1; omega) h2⟩
theorem asm_split : ∀ (bs : List (List MS)) (b j : Nat), Kids f c b bs → j < bs.length → ∃ A B, asm c e lz b j bs = A ++ (stB 0 0, nilS) :: B ∧ asm c e lz b (j + 1) bs = A ++ (fork (b + j * (c + 1) + 1) e lz, nilS) :: B ∧ A.length = j * (c + 1)
  | [], b, j, h, hj => absurd hj (by simp)
  | kb :: r, b, 0, h, hj => ⟨[], kb ++ asm c e lz (b + 1 + c) 0 r, by rw [asm]; rfl, by rw [asm, Nat.zero_mul]; rfl, by simp⟩
  | kb :: r, b, j + 1, h, hj => by
    obtain ⟨A, B, h1, h2, h3⟩ := asm_split r (b + 1 + c) j h.2.2 (by simpa using hj)
    have hc := h.2.1
    refine ⟨(fork (b + 1) e lz, nilS) :: (kb ++ A), B, by rw [asm, h1]; simp, ?_, by rw [List.length_cons, List.length_append, h3, hc, Nat.succ_mul]; omega⟩
    rw [asm, h2, show b + 1 + c + j * (c + 1) + 1 = b + (j + 1) * (c + 1) + 1 by rw [Nat.succ_mul]; omega]; simp
theorem asm_may : ∀ (bs : List (List MS)) (b : Nat), Kids f c b bs → (asm c e lz b bs.length bs).map Prod.fst = mayC f c e lz bs.length b
  | [], b, h => by simp [asm, mayC]
  | kb :: r, b, h => by rw [List.length_cons, asm, mayC, List.map_cons, List.map_append, h.1, asm_may r _ h.2.2]
theorem asm_ok (hn : Res.rd nilS 2 0 [] ∈ rs) : ∀ (bs : List (List MS)) (b p : Nat), (∀ kb ∈ bs, ∀ m ∈ kb, MsOk rs m) → ∀ m ∈ asm c e lz b p bs, MsOk rs m
  | [], b, p, h, m, hm => by simp [asm] at hm
  | kb :: r, b, 0, h, m, hm => by
    rw [asm] at hm
    exact ok_cons (ok_nil hn) (ok_snoc (h kb (.head _)) (asm_ok hn r _ 0 (fun x hx => h x (.tail _ hx)))) m hm
  | kb :: r, b, p + 1, h, m, hm => by
    rw [asm] at hm
    refine ok_cons ?_ (ok_snoc (h kb (.head _)) (asm_ok hn r _ p (fun x hx => h x (.tail _ hx)))) m hm
    unfold fork; split <;> exact ok_nil hn
def posL (b c i : Nat) : List Nat := (List.range i).map fun j => b + j * (c + 1)
theorem posL_len (b c i : Nat) : (posL b c i).length = i := by simp [posL]
theorem posL_snoc (b c i : Nat) : posL b c (i + 1) = posL b c i ++ [b + i * (c + 1)] := by simp [posL, List.range_succ]
theorem posL_get {b c i j : Nat} (h : j < i) : (posL b c i).getD j 0 = b + j * (c + 1) := by
  unfold posL; rw [List.getD_eq_getElem?_getD, List.getElem?_map, List.getElem?_range h]; rfl
theorem timesC_snoc (n : Nat) : ∀ b, timesC f c (n + 1) b = timesC f c n b ++ f (b + n * c) := by
  induction n with
  | zero => intro b; simp [timesC]
  | succ n ih => intro b; rw [timesC, ih, timesC, List.append_assoc, Nat.succ_mul]; congr 2; congr 1; omega
end
theorem rep_len {k : Nd} {lo hi : Int} {lz : Bool} (b : Nat) : (pcN (.rep k lo hi lz) b).length = lo.toNat * clen k + (if hi < 0 then clen k + 2 else (hi.toNat - lo.toNat) * (clen k + 1)) := by rw [pcN_len, clen]
section
variable {rs : List Res} {k : Nd} {lo hi : Int} {lz b : Bool} {ms ks kA : List MS} {w : Value} {i : Nat}
theorem rep_fail1 (hs : ks.map Prod.fst = timesC (pcN k) (clen k) i ms.length) (hok : ∀ m ∈ ks, MsOk rs m) (hi : (i : Int) < lo) (hl : ms.length + ks.length ≤ 2000 + 2 * k.size) (h : NRes rs (ms ++ ks).length k.size (pcN k (ms ++ ks).length) (ms ++ ks) kA false w) {hi' : Int} : NRes rs ms.length (k.size + 1) (pcN (.rep k lo hi' lz) ms.length) ms (ks ++ kA) false w := by
  have h1 := h.len
  have h2 := h.no rfl
  have hk := congrArg List.length hs
  rw [List.length_map, timesC_len (pcN_len k)] at hk
  rw [pcN_len] at h2
  rw [List.length_append] at h1 h2
  refine ⟨h.one, ok_snoc hok h.ok, by rw [List.length_append]; omega, (fun e => by cases e), (fun e => by cases e), fun _ => ?_⟩
  rw [rep_len]
  have : (i + 1) * clen k ≤ lo.toNat * clen k := Nat.mul_le_mul_right _ (by omega)
  rw [Nat.succ_mul] at this
  omega
theorem rep_times (hs : ks.map Prod.fst = timesC (pcN k) (clen k) i ms.length) (h : NRes rs (ms ++ ks).length k.size (pcN k (ms ++ ks).length) (ms ++ ks) kA true w) : (ks ++ kA).map Prod.fst = timesC (pcN k) (clen k) (i + 1) ms.length := by
  have hk := congrArg List.length hs
  rw [List.length_map, timesC_len (pcN_len k)] at hk
  rw [List.map_append, hs, h.yes rfl, timesC_snoc, List.length_append, hk]
theorem rep_tl (h : NRes rs (ms ++ ks).length k.size (pcN k (ms ++ ks).length) (ms ++ ks) kA true w) : ms.length + (ks ++ kA).length ≤ 2000 + 2 * k.size := by
  have h1 := h.len
  have h2 := h.ent rfl
  rw [List.length_append] at h1 h2 ⊢
  omega
theorem rep_len1 {X : List MS} (h : NRes rs X.length k.size (pcN k X.length) X kA true w) : kA.length = clen k ∧ X.length ≤ 2000 ∧ X.length + clen k ≤ 2000 + 2 * k.size := by
  have h1 := congrArg List.length (h.yes rfl)
  rw [List.length_map, pcN_len] at h1
  have h2 := h.ent rfl
  have h3 := h.len
  exact ⟨h1, h2, by omega⟩
theorem rep_fail2 {f : MS} (hs : ks.map Prod.fst = timesC (pcN k) (clen k) lo.toNat ms.length) (hok : ∀ m ∈ ks, MsOk rs m) (hf : MsOk rs f) (hi0 : hi < 0) (h : NRes rs (ms ++ ks ++ [f]).length k.size (pcN k (ms ++ ks ++ [f]).length) (ms ++ ks ++ [f]) kA false w) (hl : ms.length + ks.length ≤ 2000 + 2 * k.size) : NRes rs ms.length (k.size + 1) (pcN (.rep k lo hi lz) ms.length) ms (ks ++ f :: kA) false w := by
  have h1 := h.len
  have h2 := h.no rfl
  have hk := congrArg List.length hs
  rw [List.length_map, timesC_len (pcN_len k)] at hk
  rw [pcN_len] at h2
  simp only [List.length_append, List.length_cons, List.length_nil] at h1 h2
  refine ⟨h.one, ok_snoc hok (ok_cons hf h.ok), by simp only [List.length_append, List.length_cons]; omega, (fun e => by cases e), (fun e => by cases e), fun _ => ?_⟩
  rw [rep_len, if_pos hi0]
  omega
theorem rep_inf (hn : Res.rd nilS 2 0 [] ∈ rs) (hs : ks.map Prod.fst = timesC (pcN k) (clen k) lo.toNat ms.length) (hok : ∀ m ∈ ks, MsOk rs m) (hlo : 0 ≤ lo) (hi0 : hi < 0) (h : NRes rs (ms ++ ks ++ [(stB 0 0, nilS)]).length k.size (pcN k (ms ++ ks ++ [(stB 0 0, nilS)]).length) (ms ++ ks ++ [(stB 0 0, nilS)]) kA true w) {w' : Value} (hw' : w'.oneCell' = true) :
    NRes rs ms.length (k.size + 1) (pcN (.rep k lo hi lz) ms.length) ms (ks ++ (fork ((ms ++ ks).length + 1) ((ms ++ ks ++ (stB 0 0, nilS) :: (kA ++ [(stB (ms ++ ks).length (ms ++ ks).length, nilS)])).length) lz, nilS) :: (kA ++ [(stB (ms ++ ks).length (ms ++ ks).length, nilS)])) true w' := by
  obtain ⟨a1, a2, a3⟩ := rep_len1 h
  have h2 := h.yes rfl
  have hk := congrArg List.length hs
  rw [List.length_map, timesC_len (pcN_len k)] at hk
  simp only [List.length_append, List.length_cons, List.length_nil, Nat.zero_add] at a2 a3 h2
  refine ⟨hw', ok_snoc hok (ok_cons (by unfold fork; split <;> exact ok_nil hn) (ok_snoc h.ok (ok_cons (ok_nil hn) (fun _ h => by cases h)))), by simp only [List.length_append, List.length_cons, List.length_nil]; omega, (fun _ => by omega), (fun _ => ?_), (fun e => by cases e)⟩
  rw [pcN, if_pos hi0]
  simp only [List.map_append, List.map_cons, List.map_nil, hs, h2, List.length_append, List.length_cons, List.length_nil, hk, a1]
  rfl
theorem all_snoc {bs : List (List MS)} {kb : List MS} (h : ∀ kb ∈ bs, ∀ m ∈ kb, MsOk rs m) (hk : ∀ m ∈ kb, MsOk rs m) : ∀ x ∈ bs ++ [kb], ∀ m ∈ x, MsOk rs m := fun x hx => by
  rcases List.mem_append.1 hx with hx | hx
  · exact h x hx
  · rw [List.mem_singleton.1 hx]; exact hk
theorem ints_one1 (a : Nat) : ∀ u ∈ [nv a], u.oneCell' = true := fun u hu => by rw [List.mem_singleton.1 hu]; rfl
theorem rep_kid {X : List MS} {f : MS} {b0 : Nat} (hX : X.length = b0) (h : NRes rs (X ++ [f]).length k.size (pcN k (X ++ [f]).length) (X ++ [f]) kA true w) : kA.length = clen k ∧ kA.map Prod.fst = pcN k (b0 + 1) ∧ b0 + 1 + clen k ≤ 2000 + 2 * k.size := by
  obtain ⟨a1, a2, a3⟩ := rep_len1 h
  have h2 := h.yes rfl
  simp only [List.length_append, List.length_cons, List.length_nil, hX, Nat.zero_add] at a2 a3 h2
  exact ⟨a1, h2, a3⟩
section
variable {bs : List (List MS)} {q n e : Nat}
theorem rep_fail3 (hn : Res.rd nilS 2 0 [] ∈ rs) (hs : ks.map Prod.fst = timesC (pcN k) (clen k) lo.toNat ms.length) (hok : ∀ m ∈ ks, MsOk rs m) (hbs : ∀ kb ∈ bs, ∀ m ∈ kb, MsOk rs m) (hkids : Kids (pcN k) (clen k) (ms.length + ks.length) bs) (hbl : bs.length = q) (hi0 : ¬ hi < 0) (hlo : 0 ≤ lo) (hn2 : n = hi.toNat - lo.toNat) (hq : q < n) (hql : ms.length + ks.length + q * (clen k + 1) ≤ 2000 + 2 * k.size)
    (h : NRes rs (ms ++ ks ++ asm (clen k) e lz (ms.length + ks.length) 0 bs ++ [(stB 0 0, nilS)]).length k.size (pcN k (ms ++ ks ++ asm (clen k) e lz (ms.length + ks.length) 0 bs ++ [(stB 0 0, nilS)]).length) (ms ++ ks ++ asm (clen k) e lz (ms.length + ks.length) 0 bs ++ [(stB 0 0, nilS)]) kA false w) :
    NRes rs ms.length (k.size + 1) (pcN (.rep k lo hi lz) ms.length) ms (ks ++ (asm (clen k) e lz (ms.length + ks.length) 0 bs ++ (stB 0 0, nilS) :: kA)) false w := by
  have h1 := h.len
  have h2 := h.no rfl
  have hk := congrArg List.length hs
  have hal := asm_len (e := e) (lz := lz) bs (ms.length + ks.length) 0 hkids
  rw [List.length_map, timesC_len (pcN_len k)] at hk
  rw [pcN_len] at h2
  rw [hbl] at hal
  simp only [List.length_append, List.length_cons, List.length_nil, hal] at h1 h2
  refine ⟨h.one, ok_snoc hok (ok_snoc (asm_ok hn bs _ _ hbs) (ok_cons (ok_nil hn) h.ok)), by simp only [List.length_append, List.length_cons, hal]; omega, (fun e => by cases e), (fun e => by cases e), fun _ => ?_⟩
  rw [rep_len, if_neg hi0, ← hn2]
  have : (q + 1) * (clen k + 1) ≤ n * (clen k + 1) := Nat.mul_le_mul_right _ (by omega)
  rw [Nat.succ_mul] at this
  omega
theorem rep_fin (hn : Res.rd nilS 2 0 [] ∈ rs) (hs : ks.map Prod.fst = timesC (pcN k) (clen k) lo.toNat ms.length) (hok : ∀ m ∈ ks, MsOk rs m) (hbs : ∀ kb ∈ bs, ∀ m ∈ kb, MsOk rs m) (hkids : Kids (pcN k) (clen k) (ms.length + ks.length) bs) (hbl : bs.length = q) (hi0 : ¬ hi < 0) (hlo : 0 ≤ lo) (hn2 : q = hi.toNat - lo.toNat) {j : Nat} (hj : j = q) (hql : ms.length + ks.length + q * (clen k + 1) ≤ 2000 + 2 * k.size) (hb : ms.length ≤ 2000) {w' : Value} (hw' : w'.oneCell' = true) :
    NRes rs ms.length (k.size + 1) (pcN (.rep k lo hi lz) ms.length) ms (ks ++ asm (clen k) (ms.length + ks.length + q * (clen k + 1)) lz (ms.length + ks.length) j bs) true w' := by
  subst hj
  have hk := congrArg List.length hs
  rw [List.length_map, timesC_len (pcN_len k)] at hk
  refine ⟨hw', ok_snoc hok (asm_ok hn bs _ _ hbs), by rw [List.length_append, asm_len bs _ _ hkids, hbl]; omega, (fun _ => hb), (fun _ => ?_), (fun e => by cases e)⟩
  rw [pcN, if_neg hi0, List.map_append, hs, ← hn2]
  conv => lhs; rw [← hbl]
  rw [asm_may bs _ hkids, hbl, hk]
end
end
theorem mrep_x (rs : List Res) (g gq : Nat) (mv kv uv : Value) (ms : List MS) (k : Nd) (lo hi : Int) (lz : Bool) (hz : fz rs ∈ F) (hn : Res.rd nilS 2 0 [] ∈ rs) (hnd : ndBlk gq (nodeC 6 false nilS kv lo hi lz 0) ∈ rs) (hkv : Res.rd kv 1 1 [uv] ∈ rs) (hPk : PNd rs k uv) (hmv : mv.oneCell' = true) (hms : ∀ m ∈ ms, MsOk rs m) (hb : ms.length ≤ 2000) (hsz : k.size ≤ 499) (hlo : 0 ≤ lo) (hlo1 : lo ≤ 100) (hhi : hi ≤ 100) (hlh : hi < 0 ∨ lo ≤ hi) (hK : HNode k) :
    CallX Tryd.prog 128 [.pointer (some ⟨g, 0, none⟩), ptrV gq] S w0 (.blk g (.cells [mv].toArray 151 (0, 0)) :: .row mv 156 5 (ms).length (msC (ms)) :: F) (fun u L' => ∃ b mv' ks, u = .bool b ∧ NRes rs ms.length (k.size + 1) (pcN (.rep k lo hi lz) ms.length) ms ks b mv' ∧ L' = mkBlk g mv' :: mkRow mv' (ms ++ ks) :: F) := by
 intro w hp
 refine calls_start Tryd.func128 rfl rfl rfl (hp) ?_
 refine TC.seq (TC.region (TL.as rfl rfl (TL.nil (TQ.then (TC.seq (TC.seq (TC.region (TL.mv rfl rfl (TL.opP rfl (op_nilCheck rfl) (TL.opP rfl (op_field fld_match_node_lo rfl) (TL.opV rfl (op_loadB ts_int rfl (bkb_fz (.tail _ (.tail _ hz)) hnd) rfl) (TL.mv rfl rfl (TL.nil (TQ.then (TC.block ?_)))))))))))))))
 refine TC.loop (ι := Nat × Value × List MS) (fun (i, w, ks) => [(0, .pointer (some ⟨g, 0, none⟩)), (1, (ptrV gq)), (13, .int .i64 lo), (14, .int .i64 (i : Int))]) (fun (i, w, ks) => .blk g (.cells [w].toArray 151 (0, 0)) :: .row w 156 5 (ms ++ ks).length (msC (ms ++ ks)) :: F) (fun (i, w, ks) => (i : Int) ≤ lo ∧ w.oneCell' = true ∧ (∀ m ∈ ks, MsOk rs m) ∧ ks.map Prod.fst = timesC (pcN k) (clen k) i ms.length ∧ ms.length + ks.length ≤ 2000 + 2 * k.size) (fun (i, w, ks) => lo.toNat - i) ((0, mv, [])) (⟨hlo, hmv, (fun m hm => by cases hm), rfl, by simp; omega⟩) ⟨rfl, rfl, rfl, rfl, trivial⟩ (fun _ h => by dsimp only; rw [List.append_nil]; exact h) ?_
 rintro ⟨i, w, ks⟩ ⟨hil, hw, hks, hks1, hkl⟩
 show TC _ _ _ _ [(0, .pointer (some ⟨g, 0, none⟩)), (1, (ptrV gq)), (13, .int .i64 lo), (14, .int .i64 (i : Int))] _ _ (.blk g (.cells [w].toArray 151 (0, 0)) :: .row w 156 5 (ms ++ ks).length (msC (ms ++ ks)) :: F)
 refine TC.seq (TC.region (TL.opP rfl (op_lss rfl rfl) (TL.nil (TQ.then (TC.seq ?_)))))
 refine TC.sp rfl (fun c1 => ?_) (fun c1 => ?_)
 ·refine TC.skip (TQ.then (TC.seq (TC.block (TC.seq (TC.region (TL.mv rfl rfl (TL.mv rfl rfl (TL.opP rfl (op_nilCheck rfl) (TL.opP rfl (op_field fld_match_node_kids rfl) (TL.opV rfl (op_loadB ts_sl_p_match_node rfl (bkb_fz (.tail _ (.tail _ hz)) hnd) rfl) (TL.opV rfl (op_index tsl_p_match_node rfl (rdb_fz (.tail _ (.tail _ hz)) hkv) rfl (by omega) (by omega)) (TL.opV rfl (op_loadR ts_p_match_node rfl (rdb_fz (.tail _ (.tail _ hz)) hkv) rfl) ?_))))))))))))
  refine TL.opX rfl (OpX.callX en_93 rfl (hK _ _ _ rs uv g w (ms ++ ks) hz hn hPk hw (ok_snoc hms hks) (by rw [List.length_append]; omega) (by omega))) ?_; rintro _ _ ⟨bA1, vA1, kA1, rfl, hA1, rfl⟩
  refine TL.opP rfl (op_not rfl rfl) (TL.nil (TQ.then ?_))
  refine TC.sp rfl (fun c2 => ?_) (fun c2 => ?_)
  ·obtain rfl : bA1 = false := by simpa using c2
   refine TC.seq (TC.region (TL.as rfl rfl (TL.nil (TQ.then (TC.ret (TQ.block_ret (TQ.then_ret (TQ.loop_ret (TQ.block_ret (TQ.then_ret ?_))))))))))
   refine ret1 rfl rfl (fun w' hp => ?_)
   exact ⟨_, _, rfl, ⟨_, _, _, rfl, (rep_fail1 hks1 hks (by omega) hkl hA1), rfl⟩, by have h := (hp); simpa only [List.append_assoc, List.cons_append, List.nil_append] using h⟩
  ·obtain rfl : bA1 = true := by simpa using c2
   refine TC.skip (TQ.block_normal (TQ.then (TC.region (TL.opP rfl (op_add rfl rfl rfl (by omega) (by omega)) (TL.mv rfl rfl (TL.nil ?_))))))
   exact TQ.round (i + 1, vA1, ks ++ kA1) (⟨by omega, hA1.one, ok_snoc hks hA1.ok, rep_times hks1 hA1, rep_tl hA1⟩) (by show _ - (i + 1) < _ - i; omega) ⟨rfl, rfl, rfl, rfl, trivial⟩ (fun _ h => by dsimp only; rw [← List.append_assoc]; exact h)
 ·obtain rfl : i = lo.toNat := by omega
  have hkc : ks.length = lo.toNat * clen k := by
    have := congrArg List.length hks1
    rw [List.length_map, timesC_len (pcN_len k)] at this
    exact this
  refine TC.exit (TQ.then_exit (TQ.loop_exit (TQ.block_hit (TQ.then (TC.seq (TC.seq (TC.region (TL.mv rfl rfl (TL.opP rfl (op_nilCheck rfl) (TL.opP rfl (op_field fld_match_node_hi rfl) (TL.opV rfl (op_loadB ts_int rfl (bkb_fz (.tail _ (.tail _ hz)) hnd) rfl) (TL.opP rfl (op_lss rfl rfl) (TL.nil (TQ.then ?_))))))))))))))
  refine TC.sp rfl (fun c3 => ?_) (fun c3 => ?_)
  ·have hMK : (ms ++ ks).length ≤ 4000 := by (simp only [List.length_append, List.length_cons, List.length_nil]; omega)
   refine TC.seq (TC.region (TL.mv rfl rfl (TL.opP rfl (op_build (ps := #[(0, _)]) rfl (bl_match_step_0 _)) ?_)))
   refine TL.opX rfl (OpX.callX en_94 rfl (madd_x g w (ms ++ ks) hw (fun m hm => ((ok_snoc hms hks) m hm).1) (stB 0 0) nilS rfl (by first | omega | (simp only [List.length_append, List.length_cons, List.length_nil]; omega)))) ?_; rintro _ _ ⟨wB2, rfl, hwB2, rfl⟩
   refine TL.as rfl rfl (TL.nil (TQ.then (TC.seq (TC.seq (TC.region (TL.mv rfl rfl (TL.mv rfl rfl (TL.opP rfl (op_nilCheck rfl) (TL.opP rfl (op_field fld_match_node_kids rfl) (TL.opV rfl (op_loadB ts_sl_p_match_node rfl (bkb_fz (.tail _ (.tail _ hz)) hnd) rfl) (TL.opV rfl (op_index tsl_p_match_node rfl (rdb_fz (.tail _ (.tail _ hz)) hkv) rfl (by omega) (by omega)) (TL.opV rfl (op_loadR ts_p_match_node rfl (rdb_fz (.tail _ (.tail _ hz)) hkv) rfl) ?_))))))))))))
   refine TL.opX rfl (OpX.callX en_93 rfl (hK _ _ _ rs uv g wB2 (ms ++ ks ++ [(stB 0 0, nilS)]) hz hn hPk hwB2 (ok_snoc (ok_snoc hms hks) (ok_cons (ok_nil hn) (fun _ h => by cases h))) (by first | omega | (simp only [List.length_append, List.length_cons, List.length_nil]; omega)) (by omega))) ?_; rintro _ _ ⟨bC3, vC3, kC3, rfl, hC3, rfl⟩
   refine TL.opP rfl (op_not rfl rfl) (TL.nil (TQ.then ?_))
   refine TC.sp rfl (fun c4 => ?_) (fun c4 => ?_)
   ·obtain rfl : bC3 = false := by simpa using c4
    refine TC.seq (TC.region (TL.as rfl rfl (TL.nil (TQ.then (TC.ret (TQ.then_ret (TQ.then_ret ?_)))))))
    refine ret1 rfl rfl (fun w' hp => ?_)
    exact ⟨_, _, rfl, ⟨_, _, _, rfl, (rep_fail2 hks1 hks (ok_nil hn) c3 hC3 hkl), rfl⟩, by have h := (hp); simpa only [List.append_assoc, List.cons_append, List.nil_append] using h⟩
   ·obtain rfl : bC3 = true := by simpa using c4
    have hkC := rep_len1 hC3
    refine TC.skip (TQ.then (TC.seq (TC.region (TL.mv rfl rfl (TL.opP rfl (op_build (ps := #[(0, _)]) rfl (bl_match_step_0 _)) ?_)))))
    refine TL.opX rfl (OpX.callX en_94 rfl (madd_x g vC3 (ms ++ ks ++ [(stB 0 0, nilS)] ++ kC3) hC3.one (fun m hm => ((ok_snoc (ok_snoc (ok_snoc hms hks) (ok_cons (ok_nil hn) (fun _ h => by cases h))) hC3.ok) m hm).1) (stB 0 0) nilS rfl (by first | omega | (simp only [List.length_append, List.length_cons, List.length_nil]; omega)))) ?_; rintro _ _ ⟨wD4, rfl, hwD4, rfl⟩
    refine TL.hp (fun _ h => h.pick1) ?_
    refine TL.know (fun _ h => row_shape h) (fun hshp => (TL.as rfl rfl (TL.nil (TQ.then (TC.seq (TC.drawS (mkBlk g wD4 :: F) [14, 17] (.cons (.p, 0) (.cons (.p, 1) (.cons (.p, 2) (.cons (.p, 4) (.cons (.p, 5) (.cons (.p, 6) (.cons (.p, 7) (.cons (.p, 9) (.cons (.p, 10) (.cons (.p, 11) (.cons (.t, 3) (.cons (.t, 8) (.cons (.p, 12) (.cons (.p, 13) (.cons (.z, 14) (.cons (.p, 15) (.cons (.p, 16) (.cons (.z, 17) (.nil))))))))))))))))))) mo (by kernel_rfl) (TR.p rfl rfl wt0 (op_move rfl) (TR.p rfl rfl wt0 (op_nilCheck rfl) (TR.p rfl rfl wt0 (op_field fld_match_maker_l rfl) (TR.p rfl rfl wt0 (op_move rfl) (TR.p rfl rfl wt0 (op_move rfl) (TR.p rfl rfl wt0 (op_nilCheck rfl) (TR.p rfl rfl wt0 (op_field fld_match_maker_l rfl) ?_)))))))))))))
    refine TR.p rfl rfl wt0 (op_move rfl) (TR.p rfl rfl wt0 (op_move rfl) (TR.p rfl rfl wt0 (op_move rfl) (TR.t rfl rfl wt0 (op_load ts_sl_match_step rfl m0 rfl) (fun _ h => h.tail) (TR.t rfl rfl wt0 (op_load ts_sl_match_step rfl m0 rfl) (fun _ h => h.tail) ?_))))
    refine TR.p rfl rfl wt0 (op_indexP tsl_match_step rfl hshp rfl (by omega) (by first | omega | (simp only [List.length_append, List.length_cons, List.length_nil]; omega))) ?_
    refine TR.p rfl rfl wt0 (op_fieldA fld_match_step_x rfl) ?_
    refine TR.z0 rfl wt0 (OpX.storeRow (k := 1) (fun w => by kernel_rfl) rfl rfl rfl (ys := [.int .i64 (((ms ++ ks).length : Nat) : Int)]) rfl (by decide) (List.all_eq_true.1 rfl) (by first | omega | (simp only [List.length_append, List.length_cons, List.length_nil]; omega)) (st_x (sv := nilS) (A := ms ++ ks ++ [(stB 0 0, nilS)] ++ kC3) (B := []) (s := stB 0 0) (s' := stB (ms ++ ks).length 0) rfl rfl (by first | omega | (simp only [List.length_append, List.length_cons, List.length_nil]; omega)))) ?_; rintro _ _ rfl
    refine TR.hp (fun _ h => row_lenMS h) ?_
    refine TR.p rfl rfl wt0 (op_indexP tsl_match_step rfl hshp rfl (by omega) (by first | omega | (simp only [List.length_append, List.length_cons, List.length_nil]; omega))) ?_
    refine TR.p rfl rfl wt0 (op_fieldA fld_match_step_y rfl) ?_
    refine TR.z0 rfl wt0 (OpX.storeRow (k := 1) (fun w => by kernel_rfl) rfl rfl rfl (ys := [.int .i64 (((ms ++ ks).length : Nat) : Int)]) rfl (by decide) (List.all_eq_true.1 rfl) (by first | omega | (simp only [List.length_append, List.length_cons, List.length_nil]; omega)) (st_y (sv := nilS) (A := ms ++ ks ++ [(stB 0 0, nilS)] ++ kC3) (B := []) (s := stB (ms ++ ks).length 0) (s' := stB (ms ++ ks).length (ms ++ ks).length) rfl rfl (by first | omega | (simp only [List.length_append, List.length_cons, List.length_nil]; omega)))) ?_; rintro _ _ rfl
    refine TR.hp (fun _ h => row_conv (Y := ms ++ ks ++ (stB 0 0, nilS) :: (kC3 ++ [(stB (ms ++ ks).length (ms ++ ks).length, nilS)])) h (by simp)) (TR.nil (TQ.then (TC.seq (TC.draw [13] (.cons (.p, 0) (.cons (.p, 1) (.cons (.p, 2) (.cons (.p, 3) (.cons (.p, 4) (.cons (.p, 5) (.cons (.p, 6) (.cons (.p, 9) (.cons (.p, 10) (.cons (.p, 11) (.cons (.t, 7) (.cons (.t, 8) (.cons (.t, 12) (.cons (.z, 13) (.nil))))))))))))))) mo (by kernel_rfl) (TR.p rfl rfl wt0 (op_move rfl) (TR.p rfl rfl wt0 (op_move rfl) (TR.p rfl rfl wt0 (op_move rfl) (TR.p rfl rfl wt0 (op_add (r := (((ms ++ ks).length + 1 : Nat) : Int)) rfl rfl (by omega) (by omega) (by omega)) (TR.p rfl rfl wt0 (op_move rfl) (TR.p rfl rfl wt0 (op_nilCheck rfl) ?_))))))))))
    refine TR.p rfl rfl wt0 (op_field fld_match_maker_l rfl) (TR.p rfl rfl wt0 (op_move rfl) (TR.p rfl rfl wt0 (op_nilCheck rfl) (TR.p rfl rfl wt0 (op_field fld_match_node_lazy rfl) (TR.t rfl rfl wt0 (op_load ts_sl_match_step rfl m1 rfl) (fun _ h => h) (TR.t rfl rfl wt0 (op_lenV rfl un_sl_match_step rfl rw0) (fun _ h => h) (TR.t rfl rfl wt0 (op_loadB ts_bool rfl (bkb_fz (.tail _ (.tail _ hz)) hnd) rfl) (fun _ h => h) (TR.hp (fun _ h => h.pick1) ?_)))))))
    refine TR.z rfl rfl wt0 (OpX.callX en_146 rfl (mfork_x g wD4 (ms ++ ks) (kC3 ++ [(stB (ms ++ ks).length (ms ++ ks).length, nilS)]) 0 0 _ _ nilS lz)) ?_; rintro _ _ ⟨rfl, rfl⟩
    refine TR.nil (TQ.then (TC.seq (TC.region (TL.as rfl rfl (TL.nil (TQ.then (TC.ret (TQ.then_ret ?_))))))))
    refine ret1 rfl rfl (fun w' hp => ?_)
    exact ⟨_, _, rfl, ⟨_, _, _, rfl, (rep_inf hn hks1 hks hlo c3 hC3 hwD4), rfl⟩, by have h := (hp); simpa only [List.append_assoc, List.cons_append, List.nil_append] using h⟩
  ·obtain ⟨n, hn2⟩ : ∃ n : Nat, n = hi.toNat - lo.toNat := ⟨_, rfl⟩
   refine TC.skip (TQ.then (TC.seq (TC.region (TL.as rfl rfl (TL.nil (TQ.then (TC.seq (TC.seq (TC.draw [] (.cons (.p, 0) (.cons (.p, 1) (.cons (.p, 2) (.cons (.p, 4) (.cons (.p, 5) (.cons (.p, 6) (.cons (.p, 9) (.cons (.t, 3) (.cons (.t, 7) (.cons (.p, 8) (.nil))))))))))) mo (by kernel_rfl) (TR.p rfl rfl wt0 (op_move rfl) (TR.p rfl rfl wt0 (op_nilCheck rfl) (TR.p rfl rfl wt0 (op_field fld_match_node_hi rfl) (TR.p rfl rfl wt0 (op_move rfl) (TR.p rfl rfl wt0 (op_nilCheck rfl) (TR.p rfl rfl wt0 (op_field fld_match_node_lo rfl) (TR.p rfl rfl wt0 (op_move rfl) (TR.t rfl rfl wt0 (op_loadB ts_int rfl (bkb_fz (.tail _ (.tail _ hz)) hnd) rfl) (fun _ h => h) (TR.t rfl rfl wt0 (op_loadB ts_int rfl (bkb_fz (.tail _ (.tail _ hz)) hnd) rfl) (fun _ h => h) ?_))))))))))))))))))
   refine TR.p rfl rfl wt0 (op_sub rfl rfl rfl (by omega) (by omega)) (TR.nil (TQ.then (TC.block (TC.hp (fun _ h => new_nil 3 1 h) ?_))))
   refine TC.loop (ι := Nat × Value × List (List MS) × Value) (fun (q, w2, bs, fv) => [(0, .pointer (some ⟨g, 0, none⟩)), (1, (ptrV gq)), (7, fv), (84, .int .i64 (hi - lo)), (85, .int .i64 (q : Int))]) (fun (q, w2, bs, fv) => .row fv 3 1 (posL (ms.length + ks.length) (clen k) q).length ((posL (ms.length + ks.length) (clen k) q).map nv) :: .blk g (.cells [w2].toArray 151 (0, 0)) :: .row w2 156 5 (ms ++ ks ++ asm (clen k) (ms.length + ks.length + n * (clen k + 1)) lz (ms.length + ks.length) 0 bs).length (msC (ms ++ ks ++ asm (clen k) (ms.length + ks.length + n * (clen k + 1)) lz (ms.length + ks.length) 0 bs)) :: F) (fun (q, w2, bs, fv) => (q : Int) ≤ hi - lo ∧ w2.oneCell' = true ∧ fv.oneCell' = true ∧ bs.length = q ∧ (∀ kb ∈ bs, ∀ m ∈ kb, MsOk rs m) ∧ Kids (pcN k) (clen k) (ms.length + ks.length) bs ∧ ms.length + ks.length + q * (clen k + 1) ≤ 2000 + 2 * k.size) (fun (q, w2, bs, fv) => (hi - lo).toNat - q) ((0, w, [], .slice none 0 0)) (⟨by omega, hw, rfl, rfl, (fun kb hk => by cases hk), trivial, by omega⟩) ⟨rfl, rfl, rfl, rfl, rfl, trivial⟩ (fun _ h => by dsimp only; rw [asm, List.append_nil]; exact h) ?_
   rintro ⟨q, w2, bs, fv⟩ ⟨hq, hw2, hfv, hbl, hbs, hkids, hql⟩
   have hXl : (ms ++ ks ++ asm (clen k) (ms.length + ks.length + n * (clen k + 1)) lz (ms.length + ks.length) 0 bs).length = ms.length + ks.length + q * (clen k + 1) := by rw [List.length_append, List.length_append, asm_len bs _ _ hkids, hbl]
   have hpl := posL_len (ms.length + ks.length) (clen k) q
   show TC _ _ _ _ [(0, .pointer (some ⟨g, 0, none⟩)), (1, (ptrV gq)), (7, fv), (84, .int .i64 (hi - lo)), (85, .int .i64 (q : Int))] _ _ (.row fv 3 1 (posL (ms.length + ks.length) (clen k) q).length ((posL (ms.length + ks.length) (clen k) q).map nv) :: .blk g (.cells [w2].toArray 151 (0, 0)) :: .row w2 156 5 (ms ++ ks ++ asm (clen k) (ms.length + ks.length + n * (clen k + 1)) lz (ms.length + ks.length) 0 bs).length (msC (ms ++ ks ++ asm (clen k) (ms.length + ks.length + n * (clen k + 1)) lz (ms.length + ks.length) 0 bs)) :: F)
   refine TC.seq (TC.region (TL.opP rfl (op_lss rfl rfl) (TL.nil (TQ.then (TC.seq ?_)))))
   refine TC.sp rfl (fun c5 => ?_) (fun c5 => ?_)
   ·refine TC.skip (TQ.then (TC.seq (TC.block (TC.seq (TC.region (TL.mv rfl rfl (TL.mv rfl rfl (TL.opP rfl (op_build (ps := #[(0, _)]) rfl (bl_match_step_0 _)) (TL.hp (fun _ h => h.pick2.pick2) ?_)))))))))
    refine TL.opX rfl (OpX.callX en_94 rfl (madd_x g w2 (ms ++ ks ++ asm (clen k) (ms.length + ks.length + n * (clen k + 1)) lz (ms.length + ks.length) 0 bs) hw2 (fun m hm => ((ok_snoc (ok_snoc hms hks) (asm_ok hn bs _ _ hbs)) m hm).1) (stB 0 0) nilS rfl (by first | omega | (simp only [List.length_append, List.length_cons, List.length_nil]; omega)))) ?_; rintro _ _ ⟨wG6, rfl, hwG6, rfl⟩
    rw [hXl]
    refine TL.opX rfl (OpX.buildSlice (ps := #[(0, _)]) rfl (bs_int_1 _)) ?_; rintro _ _ ⟨g91, rfl, rfl⟩
    refine TL.hp (fun _ h => blk_row (k := 1) (m := 1) h rfl (by decide)) (TL.hp (fun _ h => h.pick3) ?_)
    refine TL.opX rfl (OpX.append (bytes := 8) tsl_int (by decide) (by decide) rfl rw1 (ints_one1 _) (by omega) (zs := (posL (ms.length + ks.length) (clen k) (q + 1)).map nv) (by rw [posL_snoc, List.map_append]; rfl)) ?_; rintro v7 _ rfl
    refine TL.know (fun _ h => row1 h) (fun o7 => (TL.hp (fun _ h => row_lenM h) (TL.as rfl rfl (TL.nil (TQ.then (TC.seq (TC.region (TL.mv rfl rfl (TL.mv rfl rfl (TL.opP rfl (op_nilCheck rfl) (TL.opP rfl (op_field fld_match_node_kids rfl) (TL.opV rfl (op_loadB ts_sl_p_match_node rfl (bkb_fz (.tail _ (.tail _ (.tail _ (.tail _ hz)))) hnd) rfl) (TL.opV rfl (op_index tsl_p_match_node rfl (rdb_fz (.tail _ (.tail _ (.tail _ (.tail _ hz)))) hkv) rfl (by omega) (by omega)) (TL.opV rfl (op_loadR ts_p_match_node rfl (rdb_fz (.tail _ (.tail _ (.tail _ (.tail _ hz)))) hkv) rfl) (TL.hp (fun _ h => h.pick3.pick3) ?_)))))))))))))))
    refine TL.opX rfl (OpX.callX en_93 rfl (hK _ _ _ rs uv g wG6 (ms ++ ks ++ asm (clen k) (ms.length + ks.length + n * (clen k + 1)) lz (ms.length + ks.length) 0 bs ++ [(stB 0 0, nilS)]) (.tail _ (.tail _ hz)) hn hPk hwG6 (ok_snoc (ok_snoc (ok_snoc hms hks) (asm_ok hn bs _ _ hbs)) (ok_cons (ok_nil hn) (fun _ h => by cases h))) (by rw [List.length_append, hXl, List.length_singleton]; omega) (by omega))) ?_; rintro _ _ ⟨bE8, vE8, kE8, rfl, hE8, rfl⟩
    refine TL.opP rfl (op_not rfl rfl) (TL.nil (TQ.then ?_))
    refine TC.sp rfl (fun c6 => ?_) (fun c6 => ?_)
    ·obtain rfl : bE8 = false := by simpa using c6
     refine TC.seq (TC.region (TL.as rfl rfl (TL.nil (TQ.then (TC.ret (TQ.block_ret (TQ.then_ret (TQ.loop_ret (TQ.block_ret (TQ.then_ret ?_))))))))))
     refine ret1 rfl rfl (fun w' hp => ?_)
     exact ⟨_, _, rfl, ⟨_, _, _, rfl, (rep_fail3 hn hks1 hks hbs hkids hbl c3 hlo hn2 (by omega) hql hE8), rfl⟩, by have h := (hp.drop3.drop2); simpa only [List.append_assoc, List.cons_append, List.nil_append] using h⟩
    ·obtain rfl : bE8 = true := by simpa using c6
     obtain ⟨hE1, hE2, hE3⟩ := rep_kid hXl hE8
     refine TC.skip (TQ.block_normal (TQ.then (TC.region (TL.opP rfl (op_add rfl rfl rfl (by omega) (by omega)) (TL.mv rfl rfl (TL.nil ?_))))))
     exact TQ.round (q + 1, vE8, bs ++ [kE8], v7) (⟨by omega, hE8.one, by assumption, by simp [hbl], all_snoc hbs hE8.ok, hkids.snoc _ _ (by rw [hbl]; exact hE2) hE1, by rw [Nat.succ_mul]; omega⟩) (by show _ - (q + 1) < _ - q; omega) ⟨rfl, rfl, rfl, rfl, rfl, trivial⟩ (fun _ h => by dsimp only; rw [asm_snoc]; have h := h.drop3.pick1.pick1.pick2; simpa only [List.append_assoc, List.cons_append, List.nil_append] using h)
   ·obtain rfl : q = n := by omega
    refine TC.exit (TQ.then_exit (TQ.loop_exit (TQ.block_hit (TQ.then (TC.seq (TC.seq (TC.region (TL.mv rfl rfl (TL.opV rfl (op_lenV rfl un_sl_int rfl rw0) (TL.mv rfl rfl (TL.nil (TQ.then (TC.block (TC.loop (ι := Nat) (fun j => [(0, .pointer (some ⟨g, 0, none⟩)), (1, (ptrV gq)), (103, fv), (104, .int .i64 ((posL (ms.length + ks.length) (clen k) q).length : Int)), (105, .int .i64 (j : Int))]) (fun j => .row fv 3 1 (posL (ms.length + ks.length) (clen k) q).length ((posL (ms.length + ks.length) (clen k) q).map nv) :: .blk g (.cells [w2].toArray 151 (0, 0)) :: .row w2 156 5 (ms ++ ks ++ asm (clen k) (ms.length + ks.length + q * (clen k + 1)) lz (ms.length + ks.length) j bs).length (msC (ms ++ ks ++ asm (clen k) (ms.length + ks.length + q * (clen k + 1)) lz (ms.length + ks.length) j bs)) :: F) (fun j => j ≤ q) (fun j => q - j) (0) (Nat.zero_le _) ⟨rfl, rfl, rfl, rfl, rfl, trivial⟩ (fun _ h => h) ?_))))))))))))))
    rintro j hj
    refine TC.seq (TC.region (TL.opP rfl (op_lss rfl rfl) (TL.nil (TQ.then (TC.seq ?_)))))
    refine TC.sp rfl (fun c7 => ?_) (fun c7 => ?_)
    ·obtain ⟨A', B', hs1, hs2, hAl⟩ := asm_split (e := ms.length + ks.length + q * (clen k + 1)) (lz := lz) bs _ j hkids (by omega)
     have hXj : (ms ++ ks ++ A' ++ (stB 0 0, nilS) :: B').length = ms.length + ks.length + q * (clen k + 1) := by
       rw [List.append_assoc, ← hs1, List.length_append, List.length_append, asm_len bs _ _ hkids, hbl]
     have hAb : (ms ++ ks ++ A').length ≤ 4000 := by
       have := hXj
       simp only [List.length_append, List.length_cons] at this ⊢
       omega
     have hA2 : (ms ++ ks ++ A').length = ms.length + ks.length + j * (clen k + 1) := by rw [List.length_append, List.length_append, hAl]
     have hfk : fork ((ms ++ ks ++ A').length + 1) ((ms ++ ks ++ A' ++ (stB 0 0, nilS) :: B').length) lz = fork (ms.length + ks.length + j * (clen k + 1) + 1) (ms.length + ks.length + q * (clen k + 1)) lz := by rw [hXj, hA2]
     rw [hs1, ← List.append_assoc]
     refine TC.skip (TQ.then (TC.seq (TC.block (TC.seq (TC.region ?_)))))
     refine TL.opV rfl (op_index tsl_int rfl rw0 rfl (by first | omega | (rw [hpl]; omega)) (by first | omega | (rw [hpl]; omega))) ?_
     refine TL.opV rfl (op_loadR ts_int rfl rw0 (lkM (f := nv) (i := j) (d := 0) (by rw [hpl]; omega) ((posL_get (by omega)).trans hA2.symm) (by omega))) ?_
     refine TL.as rfl rfl (TL.nil (TQ.then (TC.draw [13] (.cons (.p, 0) (.cons (.p, 1) (.cons (.p, 2) (.cons (.p, 3) (.cons (.p, 4) (.cons (.p, 5) (.cons (.p, 6) (.cons (.p, 9) (.cons (.p, 10) (.cons (.p, 11) (.cons (.t, 7) (.cons (.t, 8) (.cons (.t, 12) (.cons (.z, 13) (.nil))))))))))))))) mo (by kernel_rfl) (TR.p rfl rfl wt0 (op_move rfl) (TR.p rfl rfl wt0 (op_move rfl) (TR.p rfl rfl wt0 (op_move rfl) (TR.p rfl rfl wt0 (op_add (r := (((ms ++ ks ++ A').length + 1 : Nat) : Int)) rfl rfl (by omega) (by omega) (by omega)) (TR.p rfl rfl wt0 (op_move rfl) (TR.p rfl rfl wt0 (op_nilCheck rfl) (TR.p rfl rfl wt0 (op_field fld_match_maker_l rfl) (TR.p rfl rfl wt0 (op_move rfl) (TR.p rfl rfl wt0 (op_nilCheck rfl) ?_))))))))))))
     refine TR.p rfl rfl wt0 (op_field fld_match_node_lazy rfl) (TR.t rfl rfl wt0 (op_load ts_sl_match_step rfl m1 rfl) (fun _ h => h) (TR.t rfl rfl wt0 (op_lenV rfl un_sl_match_step rfl rw2) (fun _ h => h) (TR.t rfl rfl wt0 (op_loadB ts_bool rfl (bkb_fz (.tail _ (.tail _ (.tail _ hz))) hnd) rfl) (fun _ h => h) (TR.hp (fun _ h => h.pick2.pick2) ?_))))
     refine TR.z rfl rfl wt0 (OpX.callX en_146 rfl (mfork_x g w2 (ms ++ ks ++ A') B' 0 0 _ _ nilS lz)) ?_; rintro _ _ ⟨rfl, rfl⟩
     refine TR.nil (TQ.block_normal (TQ.then (TC.region (TL.opP rfl (op_add rfl rfl rfl (by omega) (by omega)) (TL.mv rfl rfl (TL.nil ?_))))))
     exact TQ.round (j + 1) (by show j + 1 ≤ q; omega) (by show q - (j + 1) < q - j; omega) ⟨rfl, rfl, rfl, rfl, rfl, trivial⟩ (fun _ h => by rw [hs2, ← List.append_assoc, ← hfk]; exact h.pick1.pick1.pick2)
    ·refine TC.exit (TQ.then_exit (TQ.loop_exit (TQ.block_hit (TQ.then (TC.seq (TC.region (TL.as rfl rfl (TL.nil (TQ.then (TC.ret ?_))))))))))
     refine ret1 rfl rfl (fun w' hp => ?_)
     exact ⟨_, _, rfl, ⟨_, _, _, rfl, (rep_fin (j := j) hn hks1 hks hbs hkids hbl c3 hlo hn2 (by omega) hql hb hw2), rfl⟩, by have h := (hp.tail); simpa only [List.append_assoc, List.cons_append, List.nil_append] using h⟩

end Go.SK
