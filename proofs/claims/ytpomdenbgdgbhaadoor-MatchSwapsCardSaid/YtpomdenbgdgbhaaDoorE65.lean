/- Walks: layer 12, the steps of any part. -/
import Derived.Test.YtpomdenbgdgbhaaDoorE64
set_option linter.unusedVariables false
set_option linter.unusedSimpArgs false
set_option maxRecDepth 100000
namespace Go.SK
open Go Go.RowKit Go.Proofs
variable {S : Nat → Prop} {w0 : World} {F L : List Res}
def NCase (rs : List Res) (t : Nd) (k : Int) (neg : Bool) (sv kv : Value) (lo hi : Int) (lz : Bool) (num : Int) : Prop := match t with
  | .cls n sp => k = 1 ∧ neg = n ∧ Res.rd sv 2 sp.length (spC sp) ∈ rs
  | .bol => k = 2
  | .eol => k = 3
  | .seq x => k = 4 ∧ ∃ vs, Res.rd kv 1 vs.length vs ∈ rs ∧ PNds rs x vs
  | .alt x => k = 5 ∧ x.length ≠ 1 ∧ ∃ vs, Res.rd kv 1 vs.length vs ∈ rs ∧ PNds rs x vs
  | .rep x lo' hi' lz' => k = 6 ∧ (neg = false ∧ sv = nilS ∧ num = 0 ∧ lo = lo' ∧ hi = hi' ∧ lz = lz') ∧ ∃ u, Res.rd kv 1 1 [u] ∈ rs ∧ PNd rs x u
  | .grp x n => k = 7 ∧ num = n ∧ ∃ u, Res.rd kv 1 1 [u] ∈ rs ∧ PNd rs x u
theorem PNd.node {rs : List Res} {t : Nd} {v : Value} (h : PNd rs t v) : (∃ k, t = .alt [k] ∧ PNd rs k v) ∨ ∃ g k neg sv kv lo hi lz num, v = ptrV g ∧ ndBlk g (nodeC k neg sv kv lo hi lz num) ∈ rs ∧ NCase rs t k neg sv kv lo hi lz num := by
  cases t with
  | cls n sp => unfold PNd at h; obtain ⟨g, sv, a, b, c⟩ := h; exact .inr ⟨g, _, _, _, _, _, _, _, _, a, b, rfl, rfl, c⟩
  | bol => unfold PNd at h; obtain ⟨g, a, b⟩ := h; exact .inr ⟨g, _, _, _, _, _, _, _, _, a, b, rfl⟩
  | eol => unfold PNd at h; obtain ⟨g, a, b⟩ := h; exact .inr ⟨g, _, _, _, _, _, _, _, _, a, b, rfl⟩
  | seq x => unfold PNd at h; obtain ⟨g, kv, vs, a, b, c, d⟩ := h; exact .inr ⟨g, _, _, _, _, _, _, _, _, a, b, rfl, vs, c, d⟩
  | alt x =>
    unfold PNd at h
    rcases h with ⟨a, b⟩ | ⟨a, g, kv, vs, b, c, d, e⟩
    · obtain ⟨k, rfl⟩ := List.length_eq_one_iff.1 a
      obtain ⟨t, e1, e2⟩ := b.single
      cases e1
      exact .inl ⟨k, rfl, e2⟩
    · exact .inr ⟨g, _, _, _, _, _, _, _, _, b, c, rfl, a, vs, d, e⟩
  | rep x lo hi lz => unfold PNd at h; obtain ⟨g, kv, u, a, b, c, d⟩ := h; exact .inr ⟨g, _, _, _, _, _, _, _, _, a, b, rfl, ⟨rfl, rfl, rfl, rfl, rfl, rfl⟩, u, c, d⟩
  | grp x n => unfold PNd at h; obtain ⟨g, kv, u, a, b, c, d⟩ := h; exact .inr ⟨g, _, _, _, _, _, _, _, _, a, b, rfl, rfl, u, c, d⟩
section
variable {rs : List Res} {t : Nd} {k : Int} {neg : Bool} {sv kv : Value} {lo hi : Int} {lz : Bool} {num : Int}
theorem NCase.rng (h : NCase rs t k neg sv kv lo hi lz num) : 1 ≤ k ∧ k ≤ 7 := by
  cases t with
  | cls n sp => rw [h.1]; decide
  | bol => rw [show k = 2 from h]; decide
  | eol => rw [show k = 3 from h]; decide
  | seq x => rw [h.1]; decide
  | alt x => rw [h.1]; decide
  | rep x a b c => rw [h.1]; decide
  | grp x n => rw [h.1]; decide
theorem NCase.k1 (h : NCase rs t 1 neg sv kv lo hi lz num) : ∃ sp, t = .cls neg sp ∧ Res.rd sv 2 sp.length (spC sp) ∈ rs := by
  cases t with
  | cls n sp => obtain ⟨_, rfl, c⟩ := h; exact ⟨sp, rfl, c⟩
  | bol => exact absurd (show (1 : Int) = 2 from h) (by decide)
  | eol => exact absurd (show (1 : Int) = 3 from h) (by decide)
  | seq x => exact absurd h.1 (by decide)
  | alt x => exact absurd h.1 (by decide)
  | rep x a b c => exact absurd h.1 (by decide)
  | grp x n => exact absurd h.1 (by decide)
theorem NCase.k2 (h : NCase rs t 2 neg sv kv lo hi lz num) : t = .bol := by
  cases t with
  | bol => rfl
  | eol => exact absurd (show (2 : Int) = 3 from h) (by decide)
  | cls n sp => exact absurd h.1 (by decide)
  | seq x => exact absurd h.1 (by decide)
  | alt x => exact absurd h.1 (by decide)
  | rep x a b c => exact absurd h.1 (by decide)
  | grp x n => exact absurd h.1 (by decide)
theorem NCase.k3 (h : NCase rs t 3 neg sv kv lo hi lz num) : t = .eol := by
  cases t with
  | eol => rfl
  | bol => exact absurd (show (3 : Int) = 2 from h) (by decide)
  | cls n sp => exact absurd h.1 (by decide)
  | seq x => exact absurd h.1 (by decide)
  | alt x => exact absurd h.1 (by decide)
  | rep x a b c => exact absurd h.1 (by decide)
  | grp x n => exact absurd h.1 (by decide)
theorem NCase.k4 (h : NCase rs t 4 neg sv kv lo hi lz num) : ∃ x vs, t = .seq x ∧ Res.rd kv 1 vs.length vs ∈ rs ∧ PNds rs x vs := by
  cases t with
  | seq x => obtain ⟨_, vs, a, b⟩ := h; exact ⟨x, vs, rfl, a, b⟩
  | bol => exact absurd (show (4 : Int) = 2 from h) (by decide)
  | eol => exact absurd (show (4 : Int) = 3 from h) (by decide)
  | cls n sp => exact absurd h.1 (by decide)
  | alt x => exact absurd h.1 (by decide)
  | rep x a b c => exact absurd h.1 (by decide)
  | grp x n => exact absurd h.1 (by decide)
theorem NCase.k5 (h : NCase rs t 5 neg sv kv lo hi lz num) : ∃ x vs, t = .alt x ∧ x.length ≠ 1 ∧ Res.rd kv 1 vs.length vs ∈ rs ∧ PNds rs x vs := by
  cases t with
  | alt x => obtain ⟨_, c, vs, a, b⟩ := h; exact ⟨x, vs, rfl, c, a, b⟩
  | bol => exact absurd (show (5 : Int) = 2 from h) (by decide)
  | eol => exact absurd (show (5 : Int) = 3 from h) (by decide)
  | cls n sp => exact absurd h.1 (by decide)
  | seq x => exact absurd h.1 (by decide)
  | rep x a b c => exact absurd h.1 (by decide)
  | grp x n => exact absurd h.1 (by decide)
theorem NCase.k6 (h : NCase rs t 6 neg sv kv lo hi lz num) : ∃ x u, t = .rep x lo hi lz ∧ neg = false ∧ sv = nilS ∧ num = 0 ∧ Res.rd kv 1 1 [u] ∈ rs ∧ PNd rs x u := by
  cases t with
  | rep x a b c => obtain ⟨_, ⟨e1, e2, e3, rfl, rfl, rfl⟩, u, p, q⟩ := h; exact ⟨x, u, rfl, e1, e2, e3, p, q⟩
  | bol => exact absurd (show (6 : Int) = 2 from h) (by decide)
  | eol => exact absurd (show (6 : Int) = 3 from h) (by decide)
  | cls n sp => exact absurd h.1 (by decide)
  | seq x => exact absurd h.1 (by decide)
  | alt x => exact absurd h.1 (by decide)
  | grp x n => exact absurd h.1 (by decide)
theorem NCase.k7 (h : NCase rs t 7 neg sv kv lo hi lz num) : ∃ x n u, t = .grp x n ∧ num = (n : Nat) ∧ Res.rd kv 1 1 [u] ∈ rs ∧ PNd rs x u := by
  cases t with
  | grp x n => obtain ⟨_, e, u, p, q⟩ := h; exact ⟨x, n, u, rfl, e, p, q⟩
  | bol => exact absurd (show (7 : Int) = 2 from h) (by decide)
  | eol => exact absurd (show (7 : Int) = 3 from h) (by decide)
  | cls n sp => exact absurd h.1 (by decide)
  | seq x => exact absurd h.1 (by decide)
  | alt x => exact absurd h.1 (by decide)
  | rep x a b c => exact absurd h.1 (by decide)
end
abbrev svM (x y : Nat) : MS := (⟨2, false, [], x, y⟩, nilS)
theorem size_pos (t : Nd) : 1 ≤ t.size := by cases t <;> simp only [Nd.size] <;> omega
theorem PNds.next {rs : List Res} {kr : List Nd} {vs : List Value} {i : Nat} (h : PNds rs kr (vs.drop i)) (hi : i < vs.length) : ∃ t kr', kr = t :: kr' ∧ PNd rs t (vs.getD i .nilFunc) ∧ PNds rs kr' (vs.drop (i + 1)) := by
  rw [List.drop_eq_getElem_cons hi] at h
  cases kr with
  | nil => unfold PNds at h; cases h
  | cons t kr' =>
    unfold PNds at h
    obtain ⟨v, r, e, a, b⟩ := h
    injection e with e1 e2
    subst e1 e2
    exact ⟨t, kr', rfl, by rw [List.getD_eq_getElem?_getD, List.getElem?_eq_getElem hi]; exact a, b⟩
theorem lkVal {vals : List Value} {i k : Nat} {d : Value} (h : i < vals.length) (hk : k = i) : vals[k]? = some (vals.getD i d) := by
  subst hk
  rw [List.getD_eq_getElem?_getD, List.getElem?_eq_getElem h]; rfl
section
variable {rs : List Res} {t : Nd} {kk kr : List Nd} {ms ks kA : List MS} {m f : MS} {w : Value}
theorem node_no (hmv : w.oneCell' = true) (h : (2000 : Int) < (ms.length : Int)) : NRes rs ms.length t.size (pcN t ms.length) ms [] false w :=
  ⟨hmv, (fun m hm => by cases hm), by simp only [List.length_nil]; omega, (fun e => by cases e), (fun e => by cases e), fun _ => by omega⟩
theorem node_one (hw : w.oneCell' = true) (hm : MsOk rs m) (h : ms.length ≤ 2000) (hp : pcN t ms.length = [m.1]) : NRes rs ms.length t.size (pcN t ms.length) ms [m] true w := by
  have := size_pos t
  exact ⟨hw, ok_cons hm (fun _ h => by cases h), by simp only [List.length_cons, List.length_nil]; omega, fun _ => h, fun _ => by rw [hp]; rfl, fun e => by cases e⟩
theorem node_alt {b : Bool} (h : ms.length ≤ 2000) (hA : NRes rs (ms.length + 1) (sizes kk + 1) (pcA kk ms.length) ms kA b w) : NRes rs ms.length (Nd.alt kk).size (pcN (.alt kk) ms.length) ms kA b w := by
  have := hA.len
  have e : (Nd.alt kk).size = 1 + sizes kk := by simp only [Nd.size]
  exact ⟨hA.one, hA.ok, by omega, hA.ent, by rw [pcN]; exact hA.yes, by rw [pcN]; exact hA.no⟩
theorem seq_fail (hks : ∀ m ∈ ks, MsOk rs m) (hl : ms.length + ks.length ≤ 2000 + 2 * sizes kk) (hc : clens kk = ks.length + clens (t :: kr)) (ht : t ∈ kk) (h : NRes rs (ms ++ ks).length t.size (pcN t (ms ++ ks).length) (ms ++ ks) kA false w) : NRes rs ms.length (Nd.seq kk).size (pcN (.seq kk) ms.length) ms (ks ++ kA) false w := by
  have h1 := h.len
  have h2 := h.no rfl
  have h3 := size_mem ht
  rw [pcN_len] at h2
  rw [List.length_append] at h1 h2
  have e : (Nd.seq kk).size = 1 + sizes kk := by simp only [Nd.size]
  refine ⟨h.one, ok_snoc hks h.ok, by rw [List.length_append]; omega, (fun e => by cases e), (fun e => by cases e), fun _ => ?_⟩
  rw [pcN_len, clen, hc, clens]; omega
theorem seq_on (hp : pcS kk ms.length = ks.map Prod.fst ++ pcS (t :: kr) (ms.length + ks.length)) (hc : clens kk = ks.length + clens (t :: kr)) (ht : t ∈ kk) (h : NRes rs (ms ++ ks).length t.size (pcN t (ms ++ ks).length) (ms ++ ks) kA true w) :
    pcS kk ms.length = (ks ++ kA).map Prod.fst ++ pcS kr (ms.length + (ks ++ kA).length) ∧ clens kk = (ks ++ kA).length + clens kr ∧ ms.length + (ks ++ kA).length ≤ 2000 + 2 * sizes kk := by
  obtain ⟨a1, a2, a3⟩ := rep_len1 h
  have h2 := h.yes rfl
  have h3 := size_mem ht
  rw [List.length_append] at a2 a3 h2
  rw [clens] at hc
  rw [pcS] at hp
  refine ⟨by rw [hp, List.map_append, h2, List.append_assoc, List.length_append, a1, Nat.add_assoc], by rw [List.length_append, a1]; omega, by rw [List.length_append]; omega⟩
theorem seq_done (hw : w.oneCell' = true) (hks : ∀ m ∈ ks, MsOk rs m) (hb : ms.length ≤ 2000) (hl : ms.length + ks.length ≤ 2000 + 2 * sizes kk) (hp : pcS kk ms.length = ks.map Prod.fst ++ pcS [] (ms.length + ks.length)) : NRes rs ms.length (Nd.seq kk).size (pcN (.seq kk) ms.length) ms ks true w := by
  have e : (Nd.seq kk).size = 1 + sizes kk := by simp only [Nd.size]
  exact ⟨hw, hks, by omega, fun _ => hb, fun _ => by rw [pcN, hp, pcS, List.append_nil], fun e => by cases e⟩
theorem grp_fail {num : Nat} (hb : ms.length ≤ 2000) (hf : MsOk rs f) (h : NRes rs (ms ++ [f]).length t.size (pcN t (ms ++ [f]).length) (ms ++ [f]) kA false w) : NRes rs ms.length (Nd.grp t num).size (pcN (.grp t num) ms.length) ms (f :: kA) false w := by
  have h1 := h.len
  have h2 := h.no rfl
  have e : (Nd.grp t num).size = 1 + t.size := by simp only [Nd.size]
  rw [pcN_len] at h2
  simp only [List.length_append, List.length_cons, List.length_nil] at h1 h2
  refine ⟨h.one, ok_cons hf h.ok, by simp only [List.length_cons]; omega, (fun e => by cases e), (fun e => by cases e), fun _ => ?_⟩
  rw [pcN_len, clen]; omega
theorem grp_done {num : Nat} (hn : Res.rd nilS 2 0 [] ∈ rs) (hb : ms.length ≤ 2000) (h : NRes rs (ms ++ [svM (ms.length + 1) (2 * num)]).length t.size (pcN t (ms ++ [svM (ms.length + 1) (2 * num)]).length) (ms ++ [svM (ms.length + 1) (2 * num)]) kA true w) {w' : Value} (hw : w'.oneCell' = true) :
    NRes rs ms.length (Nd.grp t num).size (pcN (.grp t num) ms.length) ms (svM (ms.length + 1) (2 * num) :: (kA ++ [svM (ms.length + clen t + 2) (2 * num + 1)])) true w' := by
  obtain ⟨a1, a2, a3⟩ := rep_len1 h
  have h2 := h.yes rfl
  have e : (Nd.grp t num).size = 1 + t.size := by simp only [Nd.size]
  simp only [List.length_append, List.length_cons, List.length_nil, Nat.zero_add] at a2 a3 h2
  refine ⟨hw, ok_cons (ok_nil hn) (ok_snoc h.ok (ok_cons (ok_nil hn) (fun _ h => by cases h))), by simp only [List.length_append, List.length_cons, List.length_nil]; omega, (fun _ => hb), (fun _ => ?_), (fun e => by cases e)⟩
  rw [pcN]
  simp only [List.map_append, List.map_cons, List.map_nil, h2]
theorem seq_kids {G : Nat} (h : NdOk G (.seq kk)) : ∀ x ∈ kk, NdOk G x := by cases h; assumption
theorem alt_kids {G : Nat} (h : NdOk G (.alt kk)) : kk ≠ [] ∧ ∀ x ∈ kk, NdOk G x := by cases h; exact ⟨‹_›, ‹_›⟩
theorem grp_kid {G num : Nat} (h : NdOk G (.grp t num)) : NdOk G t ∧ num ≤ G := by cases h; exact ⟨‹_›, ‹_›⟩
theorem rep_kid0 {G : Nat} {lo hi : Int} {lz : Bool} (h : NdOk G (.rep t lo hi lz)) : NdOk G t ∧ 0 ≤ lo ∧ lo ≤ 100 ∧ hi ≤ 100 ∧ (hi < 0 ∨ lo ≤ hi) := by cases h; exact ⟨‹_›, ‹_›, ‹_›, ‹_›, ‹_›⟩
end
theorem mnode_x (rs : List Res) (g gq : Nat) (mv : Value) (ms : List MS) (t : Nd) (k : Int) (neg : Bool) (sv kv : Value) (lo hi : Int) (lz : Bool) (num : Int) (hz : fz rs ∈ F) (hn : Res.rd nilS 2 0 [] ∈ rs) (hnd : ndBlk gq (nodeC k neg sv kv lo hi lz num) ∈ rs) (hC : NCase rs t k neg sv kv lo hi lz num) (hmv : mv.oneCell' = true) (hms : ∀ m ∈ ms, MsOk rs m) (hb : ms.length ≤ 5000) (hsz : t.size ≤ 500) (hok : NdOk 200 t) (IH : ∀ x : Nd, x.size < t.size → NdOk 200 x → HNode x) :
    CallX Tryd.prog 93 [.pointer (some ⟨g, 0, none⟩), ptrV gq] S w0 (.blk g (.cells [mv].toArray 151 (0, 0)) :: .row mv 156 5 (ms).length (msC (ms)) :: F) (fun u L' => ∃ b mv' ks, u = .bool b ∧ NRes rs ms.length t.size (pcN t ms.length) ms ks b mv' ∧ L' = mkBlk g mv' :: mkRow mv' (ms ++ ks) :: F) := by
 intro w hp
 refine calls_start Tryd.func93 rfl rfl rfl (hp) ?_
 refine TC.seq (TC.region (TL.as rfl rfl (TL.nil (TQ.then (TC.seq (TC.seq (TC.region (TL.mv rfl rfl (TL.opP rfl (op_nilCheck rfl) (TL.opP rfl (op_field fld_match_maker_l rfl) (TL.opV rfl (op_load ts_sl_match_step rfl m0 rfl) (TL.opV rfl (op_lenV rfl un_sl_match_step rfl rw1) (TL.opP rfl (op_gtr rfl rfl) (TL.nil (TQ.then ?_)))))))))))))))
 refine TC.sp rfl (fun c1 => ?_) (fun c1 => ?_)
 ·refine TC.seq (TC.region (TL.as rfl rfl (TL.nil (TQ.then (TC.ret (TQ.then_ret ?_))))))
  refine ret1 rfl rfl (fun w' hp => ?_)
  exact ⟨_, _, rfl, ⟨_, _, _, rfl, (node_no hmv c1), rfl⟩, by have h := (hp); simpa only [List.append_assoc, List.cons_append, List.nil_append, List.append_nil] using h⟩
 ·have hb2 : ms.length ≤ 2000 := by omega
  refine TC.skip (TQ.then (TC.seq (TC.seq (TC.region (TL.mv rfl rfl (TL.opP rfl (op_nilCheck rfl) (TL.opP rfl (op_field fld_match_node_kind rfl) (TL.opV rfl (op_loadB ts_int rfl (bkb_fz (.tail _ (.tail _ hz)) hnd) rfl) (TL.nil (TQ.then (TC.block (TC.seq (TC.region (TL.opP rfl (op_eql rfl rfl) (TL.as rfl rfl (TL.nil (TQ.then ?_)))))))))))))))))
  refine TC.sp rfl (fun c2 => ?_) (fun c2 => ?_)
  ·subst c2
   obtain ⟨sp, rfl, hsp⟩ := hC.k1
   refine TC.know (fun _ h => (rdb_fz (.tail _ (.tail _ hz)) hsp).one h) (fun hsv => (TC.seq (TC.draw [10] (.cons (.p, 0) (.cons (.p, 1) (.cons (.p, 2) (.cons (.p, 3) (.cons (.p, 5) (.cons (.p, 6) (.cons (.p, 7) (.cons (.t, 4) (.cons (.t, 8) (.cons (.p, 9) (.cons (.z, 10) (.cons (.p, 11) (.nil))))))))))))) mo (by kernel_rfl) (TR.p rfl rfl wt0 (op_move rfl) (TR.p rfl rfl wt0 (op_move rfl) (TR.p rfl rfl wt0 (op_nilCheck rfl) (TR.p rfl rfl wt0 (op_field fld_match_node_not rfl) (TR.p rfl rfl wt0 (op_move rfl) (TR.p rfl rfl wt0 (op_nilCheck rfl) (TR.p rfl rfl wt0 (op_field fld_match_node_spans rfl) (TR.t rfl rfl wt0 (op_loadB ts_bool rfl (bkb_fz (.tail _ (.tail _ hz)) hnd) rfl) (fun _ h => h) (TR.t rfl rfl wt0 (op_loadB ts_sl_match_span rfl (bkb_fz (.tail _ (.tail _ hz)) hnd) rfl) (fun _ h => h) ?_))))))))))))
   refine TR.p rfl rfl wt0 (op_build (ps := #[(0, _), (1, _), (2, _)]) rfl (bl_match_step_012 _ _ _)) ?_
   refine TR.z rfl rfl wt0 (OpX.callX en_94 rfl (madd_x g mv (ms) hmv (fun m hm => (hms m hm).1) ⟨0, neg, sp, 0, 0⟩ sv hsv (by first | omega | (simp only [List.length_append, List.length_cons, List.length_nil]; omega)))) ?_; rintro _ _ ⟨wB1, rfl, hwB1, rfl⟩
   refine TR.p rfl rfl wt0 (op_assign rfl) (TR.nil (TQ.then (TC.region (TL.mv rfl rfl (TL.opP rfl (op_nilCheck rfl) (TL.opP rfl (op_field fld_match_maker_l rfl) (TL.opV rfl (op_load ts_sl_match_step rfl m0 rfl) (TL.mv rfl rfl (TL.mv rfl rfl (TL.opP rfl (op_add (r := ((ms.length + 1 : Nat) : Int)) rfl rfl (by omega) (by omega) (by omega)) ?_))))))))))
   refine TL.opV rfl (op_index tsl_match_step rfl rw1 rfl (by first | omega | (simp only [List.length_append, List.length_cons, List.length_nil]; omega)) (by first | omega | (simp only [List.length_append, List.length_cons, List.length_nil]; omega))) ?_
   refine TL.opP rfl (op_fieldA fld_match_step_x rfl) (TL.hp (fun _ h => h.pick1) ?_)
   refine TL.opX0 (OpX.storeRow (k := 1) (fun w => by kernel_rfl) rfl rfl rfl (ys := [.int .i64 ((ms.length + 1 : Nat) : Int)]) rfl (by decide) (List.all_eq_true.1 rfl) (by first | omega | (simp only [List.length_append, List.length_cons, List.length_nil]; omega)) (st_x (sv := sv) (A := ms) (B := []) (s := ⟨0, neg, sp, 0, 0⟩) (s' := ⟨0, neg, sp, ms.length + 1, 0⟩) rfl rfl (by first | omega | (simp only [List.length_append, List.length_cons, List.length_nil]; omega)))) ?_; rintro _ _ rfl
   refine TL.hp (fun _ h => row_lenMS h) (TL.nil (TQ.block_normal (TQ.then (TC.seq (TC.region (TL.as rfl rfl (TL.nil (TQ.then (TC.ret ?_)))))))))
   refine ret1 rfl rfl (fun w' hp => ?_)
   exact ⟨_, _, rfl, ⟨_, _, _, rfl, (node_one (m := (⟨0, neg, sp, ms.length + 1, 0⟩, sv)) hwB1 ⟨hsv, hsp⟩ hb2 (by rw [pcN])), rfl⟩, by have h := (hp.pick1); simpa only [List.append_assoc, List.cons_append, List.nil_append, List.append_nil] using h⟩
  ·refine TC.seq (TC.seq (TC.region (TL.opP rfl (op_eql rfl rfl) (TL.as rfl rfl (TL.nil (TQ.then ?_))))))
   refine TC.sp rfl (fun c3 => ?_) (fun c3 => ?_)
   ·subst c3
    obtain rfl := hC.k2
    refine TC.skip (TQ.then (TC.condT rfl (TC.seq (TC.region (TL.mv rfl rfl (TL.mv rfl rfl (TL.opP rfl (op_nilCheck rfl) (TL.opP rfl (op_field fld_match_node_kind rfl) (TL.opV rfl (op_loadB ts_int rfl (bkb_fz (.tail _ (.tail _ hz)) hnd) rfl) (TL.opP rfl (op_add rfl rfl rfl (by omega) (by omega)) (TL.opP rfl (op_sub rfl rfl rfl (by omega) (by omega)) (TL.opP rfl (op_build (ps := #[(0, _)]) rfl (bl_match_step_0 _)) ?_))))))))))))
    refine TL.opX rfl (OpX.callX en_94 rfl (madd_x g mv (ms) hmv (fun m hm => (hms m hm).1) ⟨3, false, [], 0, 0⟩ nilS rfl (by first | omega | (simp only [List.length_append, List.length_cons, List.length_nil]; omega)))) ?_; rintro _ _ ⟨wC2, rfl, hwC2, rfl⟩
    refine TL.as rfl rfl (TL.nil (TQ.then (TC.region (TL.mv rfl rfl (TL.opP rfl (op_nilCheck rfl) (TL.opP rfl (op_field fld_match_maker_l rfl) (TL.opV rfl (op_load ts_sl_match_step rfl m0 rfl) (TL.mv rfl rfl (TL.mv rfl rfl (TL.opP rfl (op_add (r := ((ms.length + 1 : Nat) : Int)) rfl rfl (by omega) (by omega) (by omega)) ?_))))))))))
    refine TL.opV rfl (op_index tsl_match_step rfl rw1 rfl (by first | omega | (simp only [List.length_append, List.length_cons, List.length_nil]; omega)) (by first | omega | (simp only [List.length_append, List.length_cons, List.length_nil]; omega))) ?_
    refine TL.opP rfl (op_fieldA fld_match_step_x rfl) (TL.hp (fun _ h => h.pick1) ?_)
    refine TL.opX0 (OpX.storeRow (k := 1) (fun w => by kernel_rfl) rfl rfl rfl (ys := [.int .i64 ((ms.length + 1 : Nat) : Int)]) rfl (by decide) (List.all_eq_true.1 rfl) (by first | omega | (simp only [List.length_append, List.length_cons, List.length_nil]; omega)) (st_x (sv := nilS) (A := ms) (B := []) (s := ⟨3, false, [], 0, 0⟩) (s' := ⟨3, false, [], ms.length + 1, 0⟩) rfl rfl (by first | omega | (simp only [List.length_append, List.length_cons, List.length_nil]; omega)))) ?_; rintro _ _ rfl
    refine TL.hp (fun _ h => row_lenMS h) (TL.nil (TQ.block_normal (TQ.then (TC.seq (TC.region (TL.as rfl rfl (TL.nil (TQ.then (TC.ret ?_)))))))))
    refine ret1 rfl rfl (fun w' hp => ?_)
    exact ⟨_, _, rfl, ⟨_, _, _, rfl, (node_one (m := (⟨3, false, [], ms.length + 1, 0⟩, nilS)) hwC2 (ok_nil hn) hb2 (by rw [pcN])), rfl⟩, by have h := (hp.pick1); simpa only [List.append_assoc, List.cons_append, List.nil_append, List.append_nil] using h⟩
   ·refine TC.region (TL.opP rfl (op_eql rfl rfl) (TL.as rfl rfl (TL.nil (TQ.then ?_))))
    refine TC.sp rfl (fun c4 => ?_) (fun c4 => ?_)
    ·subst c4
     obtain rfl := hC.k3
     refine TC.seq (TC.region (TL.mv rfl rfl (TL.mv rfl rfl (TL.opP rfl (op_nilCheck rfl) (TL.opP rfl (op_field fld_match_node_kind rfl) (TL.opV rfl (op_loadB ts_int rfl (bkb_fz (.tail _ (.tail _ hz)) hnd) rfl) (TL.opP rfl (op_add rfl rfl rfl (by omega) (by omega)) (TL.opP rfl (op_sub rfl rfl rfl (by omega) (by omega)) (TL.opP rfl (op_build (ps := #[(0, _)]) rfl (bl_match_step_0 _)) ?_)))))))))
     refine TL.opX rfl (OpX.callX en_94 rfl (madd_x g mv (ms) hmv (fun m hm => (hms m hm).1) ⟨4, false, [], 0, 0⟩ nilS rfl (by first | omega | (simp only [List.length_append, List.length_cons, List.length_nil]; omega)))) ?_; rintro _ _ ⟨wC3, rfl, hwC3, rfl⟩
     refine TL.as rfl rfl (TL.nil (TQ.then (TC.region (TL.mv rfl rfl (TL.opP rfl (op_nilCheck rfl) (TL.opP rfl (op_field fld_match_maker_l rfl) (TL.opV rfl (op_load ts_sl_match_step rfl m0 rfl) (TL.mv rfl rfl (TL.mv rfl rfl (TL.opP rfl (op_add (r := ((ms.length + 1 : Nat) : Int)) rfl rfl (by omega) (by omega) (by omega)) ?_))))))))))
     refine TL.opV rfl (op_index tsl_match_step rfl rw1 rfl (by first | omega | (simp only [List.length_append, List.length_cons, List.length_nil]; omega)) (by first | omega | (simp only [List.length_append, List.length_cons, List.length_nil]; omega))) ?_
     refine TL.opP rfl (op_fieldA fld_match_step_x rfl) (TL.hp (fun _ h => h.pick1) ?_)
     refine TL.opX0 (OpX.storeRow (k := 1) (fun w => by kernel_rfl) rfl rfl rfl (ys := [.int .i64 ((ms.length + 1 : Nat) : Int)]) rfl (by decide) (List.all_eq_true.1 rfl) (by first | omega | (simp only [List.length_append, List.length_cons, List.length_nil]; omega)) (st_x (sv := nilS) (A := ms) (B := []) (s := ⟨4, false, [], 0, 0⟩) (s' := ⟨4, false, [], ms.length + 1, 0⟩) rfl rfl (by first | omega | (simp only [List.length_append, List.length_cons, List.length_nil]; omega)))) ?_; rintro _ _ rfl
     refine TL.hp (fun _ h => row_lenMS h) (TL.nil (TQ.block_normal (TQ.then (TC.seq (TC.region (TL.as rfl rfl (TL.nil (TQ.then (TC.ret ?_)))))))))
     refine ret1 rfl rfl (fun w' hp => ?_)
     exact ⟨_, _, rfl, ⟨_, _, _, rfl, (node_one (m := (⟨4, false, [], ms.length + 1, 0⟩, nilS)) hwC3 (ok_nil hn) hb2 (by rw [pcN])), rfl⟩, by have h := (hp.pick1); simpa only [List.append_assoc, List.cons_append, List.nil_append, List.append_nil] using h⟩
    ·refine TC.seq (TC.region (TL.opP rfl (op_eql rfl rfl) (TL.as rfl rfl (TL.nil (TQ.then ?_)))))
     refine TC.sp rfl (fun c5 => ?_) (fun c5 => ?_)
     ·subst c5
      obtain ⟨kk, vs, rfl, hkv, hvs⟩ := hC.k4
      have hks := seq_kids hok
      have hss : (Nd.seq kk).size = 1 + sizes kk := by simp only [Nd.size]
      refine TC.know (fun _ h => (rdb_fz (.tail _ (.tail _ hz)) hkv).lenLe h) (fun hvl => (TC.seq (TC.region (TL.mv rfl rfl (TL.opP rfl (op_nilCheck rfl) (TL.opP rfl (op_field fld_match_node_kids rfl) (TL.opV rfl (op_loadB ts_sl_p_match_node rfl (bkb_fz (.tail _ (.tail _ hz)) hnd) rfl) (TL.opV rfl (op_lenV rfl un_sl_p_match_node rfl (rdb_fz (.tail _ (.tail _ hz)) hkv)) (TL.mv rfl rfl (TL.nil (TQ.then (TC.block ?_))))))))))))
      refine TC.loop (ι := Nat × List Nd × Value × List MS) (fun (i, kr, w, kz) => [(0, .pointer (some ⟨g, 0, none⟩)), (68, kv), (69, .int .i64 (vs.length : Int)), (70, .int .i64 (i : Int))]) (fun (i, kr, w, kz) => .blk g (.cells [w].toArray 151 (0, 0)) :: .row w 156 5 (ms ++ kz).length (msC (ms ++ kz)) :: F) (fun (i, kr, w, kz) => i ≤ vs.length ∧ PNds rs kr (vs.drop i) ∧ (∀ x ∈ kr, x ∈ kk) ∧ w.oneCell' = true ∧ (∀ m ∈ kz, MsOk rs m) ∧ pcS kk ms.length = kz.map Prod.fst ++ pcS kr (ms.length + kz.length) ∧ clens kk = kz.length + clens kr ∧ ms.length + kz.length ≤ 2000 + 2 * sizes kk) (fun (i, kr, w, kz) => vs.length - i) ((0, kk, mv, [])) (⟨Nat.zero_le _, hvs, (fun _ h => h), hmv, (fun m hm => by cases hm), rfl, by simp, by simp; omega⟩) ⟨rfl, rfl, rfl, rfl, trivial⟩ (fun _ h => by dsimp only; rw [List.append_nil]; exact h) ?_
      rintro ⟨i, kr, w, kz⟩ ⟨hi, hPs, hsub, hw, hkz, hpc, hc, hl⟩
      show TC _ _ _ _ [(0, .pointer (some ⟨g, 0, none⟩)), (68, kv), (69, .int .i64 (vs.length : Int)), (70, .int .i64 (i : Int))] _ _ (.blk g (.cells [w].toArray 151 (0, 0)) :: .row w 156 5 (ms ++ kz).length (msC (ms ++ kz)) :: F)
      refine TC.seq (TC.region (TL.opP rfl (op_lss rfl rfl) (TL.nil (TQ.then (TC.seq ?_)))))
      refine TC.sp rfl (fun c6 => ?_) (fun c6 => ?_)
      ·obtain ⟨t0, kr', rfl, hP0, hPr⟩ := hPs.next (by omega)
       have ht0 := size_mem (hsub t0 (.head _))
       refine TC.skip (TQ.then (TC.seq (TC.block (TC.seq (TC.region (TL.opV rfl (op_index tsl_p_match_node rfl (rdb_fz (.tail _ (.tail _ hz)) hkv) rfl (by omega) (by omega)) (TL.opV rfl (op_loadR ts_p_match_node rfl (rdb_fz (.tail _ (.tail _ hz)) hkv) (lkVal (i := i) (d := .nilFunc) (by omega) (by omega))) (TL.as rfl rfl (TL.nil (TQ.then (TC.seq (TC.region (TL.mv rfl rfl (TL.opP rfl (op_move rfl) ?_))))))))))))))
       refine TL.opX rfl (OpX.callX en_93 rfl (IH t0 (by omega) (hks t0 (hsub t0 (.head _))) _ _ _ rs _ g w (ms ++ kz) hz hn hP0 hw (ok_snoc hms hkz) (by rw [List.length_append]; omega) (by omega))) ?_; rintro _ _ ⟨bA4, vA4, kA4, rfl, hA4, rfl⟩
       refine TL.opP rfl (op_not rfl rfl) (TL.nil (TQ.then ?_))
       refine TC.sp rfl (fun c7 => ?_) (fun c7 => ?_)
       ·obtain rfl : bA4 = false := by simpa using c7
        refine TC.seq (TC.region (TL.as rfl rfl (TL.nil (TQ.then (TC.ret (TQ.block_ret (TQ.then_ret (TQ.loop_ret (TQ.block_ret (TQ.block_ret (TQ.then_ret ?_)))))))))))
        refine ret1 rfl rfl (fun w' hp => ?_)
        exact ⟨_, _, rfl, ⟨_, _, _, rfl, (seq_fail hkz hl hc (hsub t0 (.head _)) hA4), rfl⟩, by have h := (hp); simpa only [List.append_assoc, List.cons_append, List.nil_append, List.append_nil] using h⟩
       ·obtain rfl : bA4 = true := by simpa using c7
        refine TC.skip (TQ.block_normal (TQ.then (TC.region (TL.opP rfl (op_add rfl rfl rfl (by omega) (by omega)) (TL.mv rfl rfl (TL.nil ?_))))))
        exact TQ.round (i + 1, kr', vA4, kz ++ kA4) (⟨by omega, hPr, (fun x hx => hsub x (.tail _ hx)), hA4.one, ok_snoc hkz hA4.ok, (seq_on hpc hc (hsub t0 (.head _)) hA4).1, (seq_on hpc hc (hsub t0 (.head _)) hA4).2.1, (seq_on hpc hc (hsub t0 (.head _)) hA4).2.2⟩) (by show _ - (i + 1) < _ - i; omega) ⟨rfl, rfl, rfl, rfl, trivial⟩ (fun _ h => by dsimp only; rw [← List.append_assoc]; exact h)
      ·obtain rfl : kr = [] := by
         rw [List.drop_of_length_le (by omega)] at hPs
         have := hPs.len
         exact List.length_eq_zero_iff.1 (by simpa using this.symm)
       refine TC.exit (TQ.then_exit (TQ.loop_exit (TQ.block_hit (TQ.block_normal (TQ.then (TC.seq (TC.region (TL.as rfl rfl (TL.nil (TQ.then (TC.ret ?_)))))))))))
       refine ret1 rfl rfl (fun w' hp => ?_)
       exact ⟨_, _, rfl, ⟨_, _, _, rfl, (seq_done hw hkz hb2 hl hpc), rfl⟩, by have h := (hp); simpa only [List.append_assoc, List.cons_append, List.nil_append, List.append_nil] using h⟩
     ·refine TC.seq (TC.region (TL.opP rfl (op_eql rfl rfl) (TL.as rfl rfl (TL.nil (TQ.then ?_)))))
      refine TC.sp rfl (fun c8 => ?_) (fun c8 => ?_)
      ·subst c8
       obtain ⟨kk, vs, rfl, hk1, hkv, hvs⟩ := hC.k5
       obtain ⟨hne, hks⟩ := alt_kids hok
       have hss : (Nd.alt kk).size = 1 + sizes kk := by simp only [Nd.size]
       refine TC.seq (TC.region (TL.mv rfl rfl (TL.mv rfl rfl (TL.opP rfl (op_nilCheck rfl) (TL.opP rfl (op_field fld_match_node_kids rfl) (TL.opV rfl (op_loadB ts_sl_p_match_node rfl (bkb_fz (.tail _ (.tail _ hz)) hnd) rfl) ?_))))))
       refine TL.opX rfl (OpX.callX en_127 rfl (halt _ kk (Nat.le_refl _) _ _ _ rs kv vs g mv ms hz hn (rdb_fz hz hkv) hvs hne hmv hms (by omega) (by omega) (fun x hx => IH x (by have := size_mem hx; omega) (hks x hx)))) ?_; rintro _ _ ⟨bD5, vD5, kD5, rfl, hD5, rfl⟩
       refine TL.as rfl rfl (TL.nil (TQ.then (TC.ret (TQ.block_ret (TQ.then_ret ?_)))))
       refine ret1 rfl rfl (fun w' hp => ?_)
       exact ⟨_, _, rfl, ⟨_, _, _, rfl, (node_alt hb2 hD5), rfl⟩, by have h := (hp); simpa only [List.append_assoc, List.cons_append, List.nil_append, List.append_nil] using h⟩
      ·refine TC.seq (TC.region (TL.opP rfl (op_eql rfl rfl) (TL.as rfl rfl (TL.nil (TQ.then ?_)))))
       refine TC.sp rfl (fun c9 => ?_) (fun c9 => ?_)
       ·subst c9
        obtain ⟨x, n, uv, rfl, rfl, hkv, hPx⟩ := hC.k7
        obtain ⟨hkx, hnx⟩ := grp_kid hok
        have hss : (Nd.grp x n).size = 1 + x.size := by simp only [Nd.size]
        refine TC.seq (TC.region (TL.mv rfl rfl (TL.mv rfl rfl (TL.opP rfl (op_nilCheck rfl) (TL.opP rfl (op_field fld_match_node_num rfl) (TL.opV rfl (op_loadB ts_int rfl (bkb_fz (.tail _ (.tail _ hz)) hnd) rfl) (TL.opP rfl (op_mul (r := ((2 * n : Nat) : Int)) rfl rfl (by omega) (by omega) (by omega)) (TL.opP rfl (op_build (ps := #[(0, _), (4, _)]) rfl (bl_match_step_04 _ _)) ?_))))))))
        refine TL.opX rfl (OpX.callX en_94 rfl (madd_x g mv (ms) hmv (fun m hm => (hms m hm).1) ⟨2, false, [], 0, 2 * n⟩ nilS rfl (by first | omega | (simp only [List.length_append, List.length_cons, List.length_nil]; omega)))) ?_; rintro _ _ ⟨wE6, rfl, hwE6, rfl⟩
        refine TL.as rfl rfl (TL.nil (TQ.then (TC.seq (TC.region (TL.mv rfl rfl (TL.opP rfl (op_nilCheck rfl) (TL.opP rfl (op_field fld_match_maker_l rfl) (TL.opV rfl (op_load ts_sl_match_step rfl m0 rfl) (TL.mv rfl rfl (TL.mv rfl rfl (TL.opP rfl (op_add (r := ((ms.length + 1 : Nat) : Int)) rfl rfl (by omega) (by omega) (by omega)) ?_)))))))))))
        refine TL.opV rfl (op_index tsl_match_step rfl rw1 rfl (by first | omega | (simp only [List.length_append, List.length_cons, List.length_nil]; omega)) (by first | omega | (simp only [List.length_append, List.length_cons, List.length_nil]; omega))) ?_
        refine TL.opP rfl (op_fieldA fld_match_step_x rfl) (TL.hp (fun _ h => h.pick1) ?_)
        refine TL.opX0 (OpX.storeRow (k := 1) (fun w => by kernel_rfl) rfl rfl rfl (ys := [.int .i64 ((ms.length + 1 : Nat) : Int)]) rfl (by decide) (List.all_eq_true.1 rfl) (by first | omega | (simp only [List.length_append, List.length_cons, List.length_nil]; omega)) (st_x (sv := nilS) (A := ms) (B := []) (s := ⟨2, false, [], 0, 2 * n⟩) (s' := ⟨2, false, [], ms.length + 1, 2 * n⟩) rfl rfl (by first | omega | (simp only [List.length_append, List.length_cons, List.length_nil]; omega)))) ?_; rintro _ _ rfl
        refine TL.hp (fun _ h => row_lenMS h) (TL.nil (TQ.then (TC.seq (TC.seq (TC.region (TL.mv rfl rfl (TL.mv rfl rfl (TL.opP rfl (op_nilCheck rfl) (TL.opP rfl (op_field fld_match_node_kids rfl) (TL.opV rfl (op_loadB ts_sl_p_match_node rfl (bkb_fz (.tail _ (.tail _ hz)) hnd) rfl) (TL.opV rfl (op_index tsl_p_match_node rfl (rdb_fz (.tail _ (.tail _ hz)) hkv) rfl (by omega) (by omega)) (TL.opV rfl (op_loadR ts_p_match_node rfl (rdb_fz (.tail _ (.tail _ hz)) hkv) rfl) (TL.hp (fun _ h => h.pick1) ?_)))))))))))))
        refine TL.opX rfl (OpX.callX en_93 rfl (IH x (by omega) hkx _ _ _ rs uv g wE6 (ms ++ [svM (ms.length + 1) (2 * n)]) hz hn hPx hwE6 (ok_snoc hms (ok_cons (ok_nil hn) (fun _ h => by cases h))) (by first | omega | (simp only [List.length_append, List.length_cons, List.length_nil]; omega)) (by omega))) ?_; rintro _ _ ⟨bG7, vG7, kG7, rfl, hG7, rfl⟩
        refine TL.opP rfl (op_not rfl rfl) (TL.nil (TQ.then ?_))
        refine TC.sp rfl (fun c10 => ?_) (fun c10 => ?_)
        ·obtain rfl : bG7 = false := by simpa using c10
         refine TC.seq (TC.region (TL.as rfl rfl (TL.nil (TQ.then (TC.ret (TQ.then_ret (TQ.block_ret (TQ.then_ret ?_))))))))
         refine ret1 rfl rfl (fun w' hp => ?_)
         exact ⟨_, _, rfl, ⟨_, _, _, rfl, (grp_fail hb2 (ok_nil hn) hG7), rfl⟩, by have h := (hp); simpa only [List.append_assoc, List.cons_append, List.nil_append, List.append_nil] using h⟩
        ·obtain rfl : bG7 = true := by simpa using c10
         obtain ⟨a1, a2, a3⟩ := rep_len1 hG7
         have hY : (ms ++ [svM (ms.length + 1) (2 * n)] ++ kG7).length = ms.length + clen x + 1 := by (simp only [List.length_append, List.length_cons, List.length_nil]; omega)
         have hY2 : ms.length + 1 ≤ 2000 := by simpa using a2
         have hY3 : ms.length + 1 + clen x ≤ 2000 + 2 * x.size := by simpa using a3
         refine TC.skip (TQ.then (TC.seq (TC.region (TL.mv rfl rfl (TL.mv rfl rfl (TL.opP rfl (op_nilCheck rfl) (TL.opP rfl (op_field fld_match_node_num rfl) (TL.opV rfl (op_loadB ts_int rfl (bkb_fz (.tail _ (.tail _ hz)) hnd) rfl) (TL.opP rfl (op_mul (r := ((2 * n : Nat) : Int)) rfl rfl (by omega) (by omega) (by omega)) (TL.opP rfl (op_add (r := ((2 * n + 1 : Nat) : Int)) rfl rfl (by omega) (by omega) (by omega)) (TL.opP rfl (op_build (ps := #[(0, _), (4, _)]) rfl (bl_match_step_04 _ _)) ?_)))))))))))
         refine TL.opX rfl (OpX.callX en_94 rfl (madd_x g vG7 (ms ++ [svM (ms.length + 1) (2 * n)] ++ kG7) hG7.one (fun m hm => ((ok_snoc (ok_snoc hms (ok_cons (ok_nil hn) (fun _ h => by cases h))) hG7.ok) m hm).1) ⟨2, false, [], 0, 2 * n + 1⟩ nilS rfl (by first | omega | (simp only [List.length_append, List.length_cons, List.length_nil]; omega)))) ?_; rintro _ _ ⟨wH8, rfl, hwH8, rfl⟩
         rw [hY]
         refine TL.as rfl rfl (TL.nil (TQ.then (TC.region (TL.mv rfl rfl (TL.opP rfl (op_nilCheck rfl) (TL.opP rfl (op_field fld_match_maker_l rfl) (TL.opV rfl (op_load ts_sl_match_step rfl m0 rfl) (TL.mv rfl rfl (TL.mv rfl rfl (TL.opP rfl (op_add (r := ((ms.length + clen x + 2 : Nat) : Int)) rfl rfl (by omega) (by omega) (by omega)) ?_))))))))))
         refine TL.opV rfl (op_index tsl_match_step rfl rw1 rfl (by first | omega | (simp only [List.length_append, List.length_cons, List.length_nil]; omega)) (by first | omega | (simp only [List.length_append, List.length_cons, List.length_nil]; omega))) ?_
         refine TL.opP rfl (op_fieldA fld_match_step_x rfl) (TL.hp (fun _ h => h.pick1) ?_)
         refine TL.opX0 (OpX.storeRow (k := 1) (fun w => by kernel_rfl) rfl rfl rfl (ys := [.int .i64 ((ms.length + clen x + 2 : Nat) : Int)]) rfl (by decide) (List.all_eq_true.1 rfl) (by first | omega | (simp only [List.length_append, List.length_cons, List.length_nil]; omega)) (st_x (sv := nilS) (A := ms ++ [svM (ms.length + 1) (2 * n)] ++ kG7) (B := []) (s := ⟨2, false, [], 0, 2 * n + 1⟩) (s' := ⟨2, false, [], ms.length + clen x + 2, 2 * n + 1⟩) rfl rfl (by first | omega | (simp only [List.length_append, List.length_cons, List.length_nil]; omega)))) ?_; rintro _ _ rfl
         refine TL.hp (fun _ h => row_lenMS h) (TL.nil (TQ.block_normal (TQ.then (TC.seq (TC.region (TL.as rfl rfl (TL.nil (TQ.then (TC.ret ?_)))))))))
         refine ret1 rfl rfl (fun w' hp => ?_)
         exact ⟨_, _, rfl, ⟨_, _, _, rfl, (grp_done hn hb2 hG7 hwH8), rfl⟩, by have h := (hp.pick1); simpa only [List.append_assoc, List.cons_append, List.nil_append, List.append_nil] using h⟩
       ·refine TC.seq (TC.region (TL.opP rfl (op_eql rfl rfl) (TL.as rfl rfl (TL.nil (TQ.then ?_)))))
        refine TC.sp rfl (fun c11 => ?_) (fun c11 => ?_)
        ·subst c11
         obtain ⟨x, uv, rfl, rfl, rfl, rfl, hkv, hPx⟩ := hC.k6
         obtain ⟨hkx, l1, l2, l3, l4⟩ := rep_kid0 hok
         have hss : (Nd.rep x lo hi lz).size = x.size + 1 := by simp only [Nd.size]; omega
         refine TC.seq (TC.region (TL.mv rfl rfl (TL.opP rfl (op_move rfl) ?_)))
         refine TL.opX rfl (OpX.callX en_128 rfl (mrep_x rs g gq mv kv uv ms x lo hi lz hz hn hnd hkv hPx hmv hms hb2 (by omega) l1 l2 l3 l4 (IH x (by omega) hkx))) ?_; rintro _ _ ⟨bJ9, vJ9, kJ9, rfl, hJ9, rfl⟩
         refine TL.as rfl rfl (TL.nil (TQ.then (TC.ret (TQ.block_ret (TQ.then_ret ?_)))))
         refine ret1 rfl rfl (fun w' hp => ?_)
         exact ⟨_, _, rfl, ⟨_, _, _, rfl, (hss ▸ hJ9), rfl⟩, by have h := (hp); simpa only [List.append_assoc, List.cons_append, List.nil_append, List.append_nil] using h⟩
        ·exact absurd hC.rng (by omega)

theorem hnode : ∀ (n : Nat) (t : Nd), t.size ≤ n → NdOk 200 t → HNode t
  | 0, t, h, hok => absurd (size_pos t) (by omega)
  | n + 1, t, h, hok => fun S w0 F rs v g mv ms hz hn hv hmv hms hb hsz => by
    rcases hv.node with ⟨k, rfl, hk⟩ | ⟨gq, k, neg, sv, kv, lo, hi, lz, num, rfl, hnd, hC⟩
    · have e : (Nd.alt [k]).size = 1 + k.size := by simp [Nd.size, sizes]
      have h1 := hnode n k (by omega) ((alt_kids hok).2 k (.head _)) S w0 F rs v g mv ms hz hn hk hmv hms hb (by omega)
      refine h1.mono fun u L' ⟨b, mv', ks, h2, h3, h4⟩ => ⟨b, mv', ks, h2, ⟨h3.one, h3.ok, ?_, h3.ent, ?_, ?_⟩, h4⟩
      · have := h3.len; omega
      · rw [pcN, pcA_one]; exact h3.yes
      · rw [pcN, pcA_one]; exact h3.no
    · exact mnode_x rs g gq mv ms t k neg sv kv lo hi lz num hz hn hnd hC hmv hms hb hsz hok (fun x hx hox => hnode n x (by omega) hox)
end Go.SK
