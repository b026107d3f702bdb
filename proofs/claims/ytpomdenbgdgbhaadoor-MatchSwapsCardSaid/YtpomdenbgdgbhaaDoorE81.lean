/- Layer 12: the document's reader: rows, parts. -/
import Derived.Test.YtpomdenbgdgbhaaDoorE80
set_option linter.unusedVariables false
set_option linter.unusedSimpArgs false
set_option maxRecDepth 100000
namespace Go.SK
open Go Go.RowKit Go.Proofs
variable {S : Nat → Prop} {w0 : World} {F L : List Res}
theorem row_len8 {S : Nat → Prop} {w0 w : World} {L : List Res} {v : Value} {e m : Nat} {ps : List Pc} (h : Hp S w0 w (.row v e 8 m (encs ps) :: L)) : Hp S w0 w (.row v e 8 ps.length (encs ps) :: L) := by
  have h1 : w.ownsRow 0 e 8 v m (encs ps) := h.at_ _ (.head _)
  have h2 : ps.length = m := by have := h1.1; rw [encs_length, show Enc.sz Pc = 8 from rfl] at this; omega
  rw [h2]; exact h
section
variable {l : List Int} {P : Nat → Nat → PR Nd}
theorem altGo_fuel (hP : AdvP l P) : ∀ (f f' j g : Nat) (acc : List Nd), l.length < j + f → l.length < j + f' → j ≤ l.length → altGo l P f j g acc = altGo l P f' j g acc
  | 0, f', j, g, acc, h, h', hj => by omega
  | f + 1, 0, j, g, acc, h, h', hj => by omega
  | f + 1, f' + 1, j, g, acc, h, h', hj => by
    rw [altGo, altGo]
    by_cases c : nx l j = 124
    · have := nx_some c (by decide)
      rw [if_pos c, if_pos c]
      cases hr : rowF l P (j + 1) g with
      | err e k => rfl
      | ok n k g' =>
        obtain ⟨a, b, _⟩ := rowF_adv hP (by omega) hr
        exact altGo_fuel hP f f' k g' _ (by omega) (by omega) b
    · rw [if_neg c, if_neg c]
variable {R : PR Nd} {deep b f k k2 g g2 : Nat} {acc ac : List Nd} {qs ps : List Pc} {q : Pc} {e e2 : Int} {rs rs' rs0 rs1 rs2 : List Res}
/-- Rows with | between: where one begins. -/
def EI (l : List Int) (P : Nat → Nat → PR Nd) (R : PR Nd) (deep b k g : Nat) (acc : List Nd) (e : Int) : Prop :=
  (e = 0 ∧ deep ≤ 20 ∧ k ≤ l.length ∧ g ≤ k ∧ b ≤ k ∧ R = (match rowF l P k g with | .err e j => .err e j | .ok n j g' => altGo l P (l.length + 1 - j) j g' (acc ++ [n]))) ∨ (e ≠ 0 ∧ R = .err e k)
/-- Within a row. -/
def RI (l : List Int) (P : Nat → Nat → PR Nd) (R : PR Nd) (deep b : Nat) (rs : List Res) (f k g : Nat) (acc ac : List Nd) (qs : List Pc) (e : Int) : Prop :=
  (e = 0 ∧ deep ≤ 20 ∧ k ≤ l.length ∧ g ≤ k ∧ b ≤ k ∧ l.length < k + f ∧ qs.length ≤ k ∧ RNds rs ac qs ∧ R = (match rowGo l P f k g ac with | .err e j => .err e j | .ok n j g' => altGo l P (l.length + 1 - j) j g' (acc ++ [n]))) ∨ (e ≠ 0 ∧ R = .err e k)
/-- Behind a row. -/
def FI (l : List Int) (P : Nat → Nat → PR Nd) (R : PR Nd) (deep b : Nat) (rs : List Res) (k g : Nat) (acc ac : List Nd) (qs : List Pc) (e : Int) : Prop :=
  (e = 0 ∧ deep ≤ 20 ∧ k ≤ l.length ∧ g ≤ k ∧ b ≤ k ∧ RNds rs ac qs ∧ R = altGo l P (l.length + 1 - k) k g (acc ++ [.seq ac])) ∨ (e ≠ 0 ∧ R = .err e k)
theorem EI.row (h : EI l P R deep b k g acc e) : RI l P R deep b rs (l.length + 1 - k) k g acc [] [] e := by
  rcases h with ⟨a, h1, h2, h3, h4, h5⟩ | h
  · exact .inl ⟨a, h1, h2, h3, h4, by omega, Nat.zero_le _, RNds.nil, h5⟩
  · exact .inr h
theorem RI.now (h : RI l P R deep b rs f k g acc ac qs 0) : deep ≤ 20 ∧ k ≤ l.length ∧ g ≤ k ∧ b ≤ k ∧ l.length < k + f ∧ qs.length ≤ k := by
  rcases h with ⟨_, h1, h2, h3, h4, h5, h6, _⟩ | ⟨h, _⟩
  · exact ⟨h1, h2, h3, h4, h5, h6⟩
  · exact absurd rfl h
theorem RI.on (hP : AdvP l P) (h : RI l P R deep b rs (f + 1) k g acc ac qs 0) (hk : k < l.length) (h1 : nx l k ≠ 124) (h2 : nx l k ≠ 41) (hq : QRes rs rs' (countedF l P k g) k2 g2 e2 q) :
    ∃ t, RI l P R deep b rs' f k2 g2 acc (ac ++ [t]) (qs ++ [q]) e2 ∧ (e2 = 0 → k < k2) := by
  rcases h with ⟨_, a1, a2, a3, a4, a5, a6, a7, a8⟩ | ⟨h, _⟩
  · by_cases he : e2 = 0
    · obtain ⟨t, hE, hR⟩ := hq.good he
      have hA := countedF_adv hP hk hE
      have x1 := hA.lt
      have x2 := hA.le
      have x3 := hA.g1
      exact ⟨t, .inl ⟨he, a1, x2, by omega, by omega, by omega, by rw [List.length_append, List.length_singleton]; omega, (a7.mono hq.sub _ _).snoc hR, by rw [a8, rowGo_on hk h1 h2 hE]⟩, fun _ => x1⟩
    · exact ⟨.bol, .inr ⟨he, by rw [a8, rowGo_err hk h1 h2 (hq.bad he)]⟩, fun h => absurd h he⟩
  · exact absurd rfl h
theorem RI.fin (hps : ∀ x ∈ l, 0 ≤ x) (h : RI l P R deep b rs f k g acc ac qs e) (hs : pk l k e < 0 ∨ pk l k e = 124 ∨ pk l k e = 41) : FI l P R deep b rs k g acc ac qs e := by
  rcases h with ⟨rfl, a1, a2, a3, a4, a5, a6, a7, a8⟩ | h
  · rw [pk_0] at hs
    obtain ⟨f, rfl⟩ : ∃ f', f = f' + 1 := ⟨f - 1, by omega⟩
    have he := rowGo_end (l := l) (P := P) (f := f) (i := k) (g := g) (acc := ac) (by
      rintro ⟨x, y, z⟩
      have := nx_nn hps x
      omega)
    exact .inl ⟨rfl, a1, a2, a3, a4, a7, by rw [a8, he]⟩
  · exact .inr h
theorem FI.next (hP : AdvP l P) (h : FI l P R deep b rs k g acc ac qs e) (hn : pk l k e = 124) : e = 0 ∧ EI l P R deep (b + 1) (k + 1) g (acc ++ [.seq ac]) 0 ∧ RNds rs ac qs := by
  obtain ⟨rfl, hlt, hn⟩ := pk_some hn (by decide)
  rcases h with ⟨_, a1, a2, a3, a4, a7, a8⟩ | ⟨h, _⟩
  · refine ⟨rfl, .inl ⟨rfl, a1, by omega, by omega, by omega, ?_⟩, a7⟩
    rw [a8, show l.length + 1 - k = (l.length - k) + 1 by omega, altGo, if_pos hn]
    cases hr : rowF l P (k + 1) g with
    | err e k => rfl
    | ok n j g' =>
      obtain ⟨x, y, _⟩ := rowF_adv hP (by omega) hr
      exact altGo_fuel hP _ _ j g' _ (by omega) (by omega) y
  · exact absurd rfl h
theorem FI.last (h : FI l P R deep b rs2 k g acc ac qs e) (hn : ¬ pk l k e = 124) (hs : rs0 ⊆ rs2) (ha : RNds rs1 acc ps) (h12 : rs1 ⊆ rs2) {kv kv2 : Value} {hk : kv.oneCell' = true} {hk2 : kv2.oneCell' = true} :
    QRes rs0 (.rd kv 8 (ps ++ [(⟨4, false, nilS, kv2, 0, 0, false, 0, rfl, hk2⟩ : Pc)]).length (encs (ps ++ [(⟨4, false, nilS, kv2, 0, 0, false, 0, rfl, hk2⟩ : Pc)])) :: .rd kv2 8 qs.length (encs qs) :: rs2) R k g e ⟨5, false, nilS, kv, 0, 0, false, 0, rfl, hk⟩ := by
  rcases h with ⟨rfl, a1, a2, a3, a4, a7, a8⟩ | ⟨h, hR⟩
  · rw [pk_0] at hn
    refine .ok (fun x hx => .tail _ (.tail _ (hs hx))) (t := .alt (acc ++ [.seq ac])) (by rw [a8, show l.length + 1 - k = (l.length - k) + 1 by omega, altGo_end hn]) ?_
    unfold RNd
    refine ⟨rfl, _, .head _, (ha.mono (fun x hx => .tail _ (.tail _ (h12 hx))) _ _).snoc ?_⟩
    unfold RNd
    exact ⟨rfl, qs, .tail _ (.head _), a7.mono (fun x hx => .tail _ (.tail _ hx)) _ _⟩
  · exact .err (fun x hx => .tail _ (.tail _ (hs hx))) hR h
theorem FI.rows (h : RNds rs2 ac qs) (ha : RNds rs1 acc ps) (h12 : rs1 ⊆ rs2) {kv2 : Value} {hk2 : kv2.oneCell' = true} : RNds (.rd kv2 8 qs.length (encs qs) :: rs2) (acc ++ [.seq ac]) (ps ++ [⟨4, false, nilS, kv2, 0, 0, false, 0, rfl, hk2⟩]) :=
  (ha.mono (fun x hx => .tail _ (h12 hx)) _ _).snoc (by unfold RNd; exact ⟨rfl, qs, .head _, h.mono (fun x hx => .tail _ hx) _ _⟩)
theorem EI.over (h : EI l P R deep b k g acc e) (hb : l.length < b) : e ≠ 0 := by
  rcases h with ⟨_, _, h1, _, h2, _⟩ | ⟨h, _⟩
  · omega
  · exact h
theorem EI.start {deep i gn : Nat} (e0 : Int) (hi : i ≤ l.length) (hg : gn ≤ i) (h : (e0 = 0 ∧ deep ≤ 20) ∨ (e0 = 4 ∧ 20 < deep)) : EI l P (eitherF l P deep i gn) deep i i gn [] e0 := by
  rcases h with ⟨rfl, h⟩ | ⟨rfl, h⟩
  · refine .inl ⟨rfl, h, hi, hg, Nat.le_refl _, ?_⟩
    unfold eitherF
    rw [if_neg (by omega)]
    cases rowF l P i gn <;> rfl
  · exact .inr ⟨by decide, either_deep h⟩
end
set_option maxHeartbeats 1000000
theorem xrows_x (l : List Int) (lv : Value) (g i gn : Nat) (hxl : Rdb F lv 1 l.length (l.map (Value.int .i32))) (hln : l.length ≤ 200) (hps : ∀ x ∈ l, 0 ≤ x) (rs : List Res) (n deep : Nat) (hP : HXPart l n) (hd : deep ≤ 21) (hi : i ≤ l.length) (hn : l.length < i + n) (hgi : gn ≤ i) :
    CallX Tryd.prog 84 [.pointer (some ⟨g, 0, none⟩), .int .i64 (deep : Int)] S w0 (fz rs :: .blk g (.cells [lv, .int .i64 (((i : Nat) : Int) : Int), .int .i64 (((gn : Nat) : Int) : Int), .int .i64 (0)].toArray 126 (0, 0)) :: F) (fun u L' => ∃ rs' i' g' e p, u = Pc.val p ∧ QRes rs rs' (eitherF l (pPart l n deep) deep i gn) i' g' e p ∧ L' = fz rs' :: .blk g (.cells [lv, .int .i64 (((i' : Nat) : Int) : Int), .int .i64 (((g' : Nat) : Int) : Int), .int .i64 (e)].toArray 126 (0, 0)) :: F) := by
 intro w hp
 refine calls_start Tryd.func84 rfl rfl rfl (hp) ?_
 refine TC.seq (TC.region ?_)
 refine TL.opX rfl (OpX.alloc tz_sealskinref12_Part rfl) ?_; rintro _ _ ⟨g4, rfl, rfl⟩
 refine TL.nil (TQ.then ?_)
 refine TC.join (ι := Int) (fun e0 => [(0, .pointer (some ⟨g, 0, none⟩)), (1, .int .i64 (deep : Int)), (4, .pointer (some ⟨g4, 0, none⟩))]) (fun e0 => .blk g4 (.cells (nodeC 0 false nilS nilS 0 0 false 0).toArray 130 (0, 0)) :: fz rs :: .blk g (.cells [lv, .int .i64 (((i : Nat) : Int) : Int), .int .i64 (((gn : Nat) : Int) : Int), .int .i64 (e0)].toArray 126 (0, 0)) :: F) (fun e0 => (e0 = 0 ∧ deep ≤ 20) ∨ (e0 = 4 ∧ 20 < deep)) ?_ ?_
 ·refine TC.seq (TC.region (TL.mv rfl rfl (TL.opP rfl (op_gtr rfl rfl) (TL.nil (TQ.then ?_)))))
  refine TC.sp rfl (fun c1 => ?_) (fun c1 => ?_)
  ·refine TC.region (TL.mv rfl rfl (TL.hp (fun _ h => h.pick2) ?_))
   refine TL.opX rfl (OpX.callX en_85 rfl (xfail0_x l _ _ i gn hxl.cons.cons hln 4)) ?_; rintro _ _ ⟨rfl, rfl⟩
   refine TL.nil ?_
   exact TQ.join (4) (by omega) ⟨rfl, rfl, rfl, trivial⟩ (fun _ h => h.pick2.pick2)
  ·refine TC.skip ?_
   exact TQ.join (0) (by omega) ⟨rfl, rfl, rfl, trivial⟩ (fun _ h => h)
 ·rintro e0 he0
  refine TC.seq (TC.region (TL.opP rfl (op_build (ps := #[(0, _)]) rfl (bl_sealskinref12_Part_0 _)) ?_))
  refine TL.opX rfl (OpX.alloc tz_sealskinref12_Part rfl) ?_; rintro _ _ ⟨g5, rfl, rfl⟩
  refine TL.opX0 (OpX.storeS tst_sealskinref12_Part rfl rfl rfl rfl rfl (nc_one (by first | rfl | assumption | exact Pc.hs _) (by first | rfl | assumption | exact Pc.hk _))) ?_; rintro _ _ rfl
  refine TL.hp (fun _ h => new_nil 130 8 h) (TL.nil (TQ.then (TC.seq (TC.seq (TC.region (TL.mv rfl rfl (TL.opP rfl (op_nilCheck rfl) (TL.opP rfl (op_field fld_sealskinref12_reader_l rfl) (TL.opV rfl (op_load ts_sl_int32 rfl m4 rfl) (TL.opV rfl (op_lenV rfl un_sl_int32 rfl hxl.cons.cons.cons.cons.cons) (TL.opP rfl (op_add rfl rfl rfl (by omega) (by omega)) (TL.mv rfl rfl (TL.nil (TQ.then (TC.block (TC.loop (ι := Nat × Nat × Nat × Int × List Nd × List Pc × Value × List Res) (fun (c, k, gk, e, acc, ps, kv, rs1) => [(0, .pointer (some ⟨g, 0, none⟩)), (1, .int .i64 (deep : Int)), (4, .pointer (some ⟨g4, 0, none⟩)), (5, .pointer (some ⟨g5, 0, none⟩)), (17, .int .i64 ((l.length : Int) + 1)), (18, .int .i64 (c : Int))]) (fun (c, k, gk, e, acc, ps, kv, rs1) => .blk g4 (.cells (nodeC 0 false nilS nilS 0 0 false 0).toArray 130 (0, 0)) :: .blk g5 (.cells (nodeC 5 false nilS kv 0 0 false 0).toArray 130 (0, 0)) :: .row kv 130 8 (ps).length (encs (ps)) :: fz rs1 :: .blk g (.cells [lv, .int .i64 (((k : Nat) : Int) : Int), .int .i64 (((gk : Nat) : Int) : Int), .int .i64 (e)].toArray 126 (0, 0)) :: F) (fun (c, k, gk, e, acc, ps, kv, rs1) => c ≤ l.length + 1 ∧ ps.length = c ∧ kv.oneCell' = true ∧ rs ⊆ rs1 ∧ RNds rs1 acc ps ∧ EI l (pPart l n deep) (eitherF l (pPart l n deep) deep i gn) deep (i + c) k gk acc e ∧ (e ≠ 0 → c = 0)) (fun (c, k, gk, e, acc, ps, kv, rs1) => l.length + 1 - c) ((0, i, gn, e0, [], [], nilS, rs)) (⟨Nat.zero_le _, rfl, rfl, fun _ h => h, RNds.nil, EI.start e0 hi hgi he0, fun _ => rfl⟩) ⟨rfl, rfl, rfl, rfl, rfl, rfl, trivial⟩ (fun _ h => h.pick4.pick4.pick2.pick3.pick4) ?_))))))))))))))))
  rintro ⟨c, k, gk, e, acc, ps, kv, rs1⟩ ⟨hc, hpl, hkv, hrs, hps1, hei, hec⟩
  show TC _ _ _ _ [(0, .pointer (some ⟨g, 0, none⟩)), (1, .int .i64 (deep : Int)), (4, .pointer (some ⟨g4, 0, none⟩)), (5, .pointer (some ⟨g5, 0, none⟩)), (17, .int .i64 ((l.length : Int) + 1)), (18, .int .i64 (c : Int))] _ _ (.blk g4 (.cells (nodeC 0 false nilS nilS 0 0 false 0).toArray 130 (0, 0)) :: .blk g5 (.cells (nodeC 5 false nilS kv 0 0 false 0).toArray 130 (0, 0)) :: .row kv 130 8 (ps).length (encs (ps)) :: fz rs1 :: .blk g (.cells [lv, .int .i64 (((k : Nat) : Int) : Int), .int .i64 (((gk : Nat) : Int) : Int), .int .i64 (e)].toArray 126 (0, 0)) :: F)
  refine TC.seq (TC.region (TL.opP rfl (op_lss rfl rfl) (TL.nil (TQ.then (TC.seq ?_)))))
  refine TC.sp rfl (fun c2 => ?_) (fun c2 => ?_)
  ·refine TC.skip (TQ.then (TC.seq (TC.block (TC.seq (TC.region (TL.opP rfl (op_build (ps := #[(0, _)]) rfl (bl_sealskinref12_Part_0 _)) ?_))))))
   refine TL.opX rfl (OpX.alloc tz_sealskinref12_Part rfl) ?_; rintro _ _ ⟨g6, rfl, rfl⟩
   refine TL.opX0 (OpX.storeS tst_sealskinref12_Part rfl rfl rfl rfl rfl (nc_one (by first | rfl | assumption | exact Pc.hs _) (by first | rfl | assumption | exact Pc.hk _))) ?_; rintro _ _ rfl
   refine TL.hp (fun _ h => new_nil 130 8 h) (TL.nil (TQ.then ?_))
   refine TC.join (ι := Nat × Nat × Int × List Nd × List Pc × Value × List Res) (fun (k2, g2, e2, ac, qs, kv2, rs2) => [(0, .pointer (some ⟨g, 0, none⟩)), (1, .int .i64 (deep : Int)), (4, .pointer (some ⟨g4, 0, none⟩)), (5, .pointer (some ⟨g5, 0, none⟩)), (17, .int .i64 ((l.length : Int) + 1)), (18, .int .i64 (c : Int)), (6, .pointer (some ⟨g6, 0, none⟩))]) (fun (k2, g2, e2, ac, qs, kv2, rs2) => .blk g6 (.cells (nodeC 4 false nilS kv2 0 0 false 0).toArray 130 (0, 0)) :: .row kv2 130 8 (qs).length (encs (qs)) :: .blk g4 (.cells (nodeC 0 false nilS nilS 0 0 false 0).toArray 130 (0, 0)) :: .blk g5 (.cells (nodeC 5 false nilS kv 0 0 false 0).toArray 130 (0, 0)) :: .row kv 130 8 (ps).length (encs (ps)) :: fz rs2 :: .blk g (.cells [lv, .int .i64 (((k2 : Nat) : Int) : Int), .int .i64 (((g2 : Nat) : Int) : Int), .int .i64 (e2)].toArray 126 (0, 0)) :: F) (fun (k2, g2, e2, ac, qs, kv2, rs2) => kv2.oneCell' = true ∧ rs1 ⊆ rs2 ∧ FI l (pPart l n deep) (eitherF l (pPart l n deep) deep i gn) deep (i + c) rs2 k2 g2 acc ac qs e2) ?_ ?_
   ·refine TC.block (TC.loop (ι := Nat × Nat × Nat × Int × List Nd × List Pc × Value × List Res) (fun (f, k2, g2, e2, ac, qs, kv2, rs2) => [(0, .pointer (some ⟨g, 0, none⟩)), (1, .int .i64 (deep : Int)), (4, .pointer (some ⟨g4, 0, none⟩)), (5, .pointer (some ⟨g5, 0, none⟩)), (17, .int .i64 ((l.length : Int) + 1)), (18, .int .i64 (c : Int)), (6, .pointer (some ⟨g6, 0, none⟩))]) (fun (f, k2, g2, e2, ac, qs, kv2, rs2) => .blk g6 (.cells (nodeC 4 false nilS kv2 0 0 false 0).toArray 130 (0, 0)) :: .row kv2 130 8 (qs).length (encs (qs)) :: .blk g4 (.cells (nodeC 0 false nilS nilS 0 0 false 0).toArray 130 (0, 0)) :: .blk g5 (.cells (nodeC 5 false nilS kv 0 0 false 0).toArray 130 (0, 0)) :: .row kv 130 8 (ps).length (encs (ps)) :: fz rs2 :: .blk g (.cells [lv, .int .i64 (((k2 : Nat) : Int) : Int), .int .i64 (((g2 : Nat) : Int) : Int), .int .i64 (e2)].toArray 126 (0, 0)) :: F) (fun (f, k2, g2, e2, ac, qs, kv2, rs2) => qs.length ≤ 300 ∧ kv2.oneCell' = true ∧ rs1 ⊆ rs2 ∧ RI l (pPart l n deep) (eitherF l (pPart l n deep) deep i gn) deep (i + c) rs2 f k2 g2 acc ac qs e2) (fun (f, k2, g2, e2, ac, qs, kv2, rs2) => if e2 = 0 then l.length + 1 - k2 else 0) ((l.length + 1 - k, k, gk, e, [], [], nilS, rs1)) (⟨Nat.zero_le _, rfl, fun _ h => h, hei.row⟩) ⟨rfl, rfl, rfl, rfl, rfl, rfl, rfl, trivial⟩ (fun _ h => h.pick6.pick6.pick6.pick6.pick6.pick5.pick6) ?_)
    rintro ⟨f, k2, g2, e2, ac, qs, kv2, rs2⟩ ⟨hql, hkv2, h12, hri⟩
    show TC _ _ _ _ [(0, .pointer (some ⟨g, 0, none⟩)), (1, .int .i64 (deep : Int)), (4, .pointer (some ⟨g4, 0, none⟩)), (5, .pointer (some ⟨g5, 0, none⟩)), (17, .int .i64 ((l.length : Int) + 1)), (18, .int .i64 (c : Int)), (6, .pointer (some ⟨g6, 0, none⟩))] _ _ (.blk g6 (.cells (nodeC 4 false nilS kv2 0 0 false 0).toArray 130 (0, 0)) :: .row kv2 130 8 (qs).length (encs (qs)) :: .blk g4 (.cells (nodeC 0 false nilS nilS 0 0 false 0).toArray 130 (0, 0)) :: .blk g5 (.cells (nodeC 5 false nilS kv 0 0 false 0).toArray 130 (0, 0)) :: .row kv 130 8 (ps).length (encs (ps)) :: fz rs2 :: .blk g (.cells [lv, .int .i64 (((k2 : Nat) : Int) : Int), .int .i64 (((g2 : Nat) : Int) : Int), .int .i64 (e2)].toArray 126 (0, 0)) :: F)
    refine TC.seq (TC.seq (TC.region (TL.mv rfl rfl (TL.hp (fun _ h => h.pick6) ?_))))
    refine TL.opX rfl (OpX.callX en_118 rfl (xpeek_x l _ _ k2 g2 hxl.cons.cons.cons.cons.cons.cons hln e2)) ?_; rintro _ _ ⟨rfl, rfl⟩
    refine TL.opP rfl (op_geq rfl rfl) (TL.opP rfl (op_move rfl) ?_)
    refine TL.sp (fun c3 => ?_) (fun c3 => ?_)
    ·refine TL.gT rfl rfl (TL.mv rfl rfl (TL.gT rfl rfl ?_))
     refine TL.opX rfl (OpX.callX en_118 rfl (xpeek_x l _ _ k2 g2 hxl.cons.cons.cons.cons.cons.cons hln e2)) ?_; rintro _ _ ⟨rfl, rfl⟩
     refine TL.gT rfl rfl (TL.opP rfl (op_neq rfl rfl) (TL.opP rfl (op_pickT rfl rfl) (TL.opP rfl (op_move rfl) ?_)))
     refine TL.sp (fun c4 => ?_) (fun c4 => ?_)
     ·refine TL.gT rfl rfl (TL.mv rfl rfl (TL.gT rfl rfl ?_))
      refine TL.opX rfl (OpX.callX en_118 rfl (xpeek_x l _ _ k2 g2 hxl.cons.cons.cons.cons.cons.cons hln e2)) ?_; rintro _ _ ⟨rfl, rfl⟩
      refine TL.gT rfl rfl (TL.opP rfl (op_neq rfl rfl) (TL.opP rfl (op_pickT rfl rfl) (TL.nil (TQ.then ?_))))
      refine TC.sp rfl (fun c5 => ?_) (fun c5 => ?_)
      ·obtain ⟨rfl, hlt, hnn⟩ := pk_ge (l := l) (i := k2) (e := e2) (by omega)
       rw [pk_0] at c3 c4 c5
       obtain ⟨x1, x2, x3, x4, x5, x6⟩ := hri.now
       obtain ⟨f, rfl⟩ : ∃ f', f = f' + 1 := ⟨f - 1, by omega⟩
       refine TC.skip (TQ.then (TC.block (TC.drawS (.blk g6 (.cells (nodeC 4 false nilS kv2 0 0 false 0).toArray 130 (0, 0)) :: .row kv2 130 8 (qs).length (encs (qs)) :: .blk g4 (.cells (nodeC 0 false nilS nilS 0 0 false 0).toArray 130 (0, 0)) :: .blk g5 (.cells (nodeC 5 false nilS kv 0 0 false 0).toArray 130 (0, 0)) :: .row kv 130 8 (ps).length (encs (ps)) :: F) [6, 8] (.cons (.p, 0) (.cons (.p, 2) (.cons (.p, 3) (.cons (.t, 1) (.cons (.o, 4) (.cons (.o, 5) (.cons (.z, 6) (.cons (.p, 7) (.cons (.z, 8) (.nil)))))))))) mo (by kernel_rfl) (TR.p rfl rfl wt0 (op_field fld_sealskinref12_Part_Kids rfl) (TR.p rfl rfl wt0 (op_move rfl) ?_)))))
       refine TR.p rfl rfl wt0 (op_move rfl) (TR.t rfl rfl wt0 (op_load ts_sl_sealskinref12_Part rfl m0 rfl) (fun _ h => h.drop6.tail) (TR.hp (fun _ h => h.pick6) ?_))
       refine TR.o rfl rfl wt0 (OpX.callX en_119 rfl (xcounted_x l _ _ k2 g2 hxl.cons.cons.cons.cons.cons hln hps rs2 n deep hP x1 hlt (by omega) x3)) (by rintro _ _ ⟨rz5, iz5, gz5, ez5, pz5, rfl, hR5, rfl⟩; intro w h; exact h.drop1.tail) ?_; rintro _ _ ⟨rz5, iz5, gz5, ez5, pz5, rfl, hR5, rfl⟩
       obtain ⟨t2, hri2, hri3⟩ := hri.on (pPart_adv n deep) hlt c4 c5 hR5
       have hrz := hR5.sub
       refine TR.o rfl rfl wt0 (OpX.buildSlice (ps := #[(0, _)]) rfl (bs_sealskinref12_Part_1 pz5)) (by rintro _ _ ⟨g39, rfl, rfl⟩; intro w h; exact h.drop2.drop1.tail) ?_; rintro _ _ ⟨g39, rfl, rfl⟩
       refine TR.hp (fun _ h => blk_row (k := 8) (m := 1) h rfl (by decide)) (TR.hp (fun _ h => h.pick4) ?_)
       refine TR.z rfl rfl wt0 (OpX.append (bytes := 96) tsl_sealskinref12_Part (by decide) (by decide) rfl rw1 (encs_one _) (by omega) (zs := encs (qs ++ [pz5])) (encs_append _ _).symm) ?_; rintro v6 _ rfl
       refine TR.know (fun _ h => row1 h) (fun o6 => (TR.hp (fun _ h => row_len8 h) (TR.p rfl rfl wt0 (op_field fld_sealskinref12_Part_Kids rfl) (TR.hp (fun _ h => h.pick4) ?_))))
       refine TR.z0 rfl wt0 (OpX.store1 ts_sl_sealskinref12_Part rfl rfl (by first | rfl | assumption) rfl rfl) ?_; rintro _ _ rfl
       refine TR.nil (TQ.block_normal ?_)
       exact TQ.round (f, iz5, gz5, ez5, ac ++ [t2], qs ++ [pz5], v6, rz5) (by (try dsimp only); exact ⟨by rw [List.length_append, List.length_singleton]; omega, by assumption, fun x hx => hrz (h12 hx), hri2⟩) (by show (if ez5 = 0 then l.length + 1 - iz5 else 0) < (if (0 : Int) = 0 then l.length + 1 - k2 else 0); rw [if_pos rfl]; by_cases hz0 : ez5 = 0; (have := hri3 hz0; rw [if_pos hz0]; omega); (rw [if_neg hz0]; omega)) ⟨rfl, rfl, rfl, rfl, rfl, rfl, rfl, trivial⟩ (fun _ h => h.drop2.pick3.pick3.pick6.pick6.pick6.pick6.pick6)
      ·refine TC.exit (TQ.then_exit (TQ.loop_exit (TQ.block_hit ?_)))
       exact TQ.join (k2, g2, e2, ac, qs, kv2, rs2) (⟨hkv2, h12, hri.fin hps (by omega)⟩) ⟨rfl, rfl, rfl, rfl, rfl, rfl, rfl, trivial⟩ (fun _ h => h.pick6.pick6.pick6.pick6.pick6.pick6)
     ·refine TL.gFf rfl rfl rfl (TL.gFf rfl rfl rfl (TL.gFf rfl rfl rfl (TL.opP rfl (op_pickF rfl rfl) (TL.nil (TQ.then (TC.condF rfl (TC.exit (TQ.then_exit (TQ.loop_exit (TQ.block_hit ?_))))))))))
      exact TQ.join (k2, g2, e2, ac, qs, kv2, rs2) (⟨hkv2, h12, hri.fin hps (by omega)⟩) ⟨rfl, rfl, rfl, rfl, rfl, rfl, rfl, trivial⟩ (fun _ h => h.pick6.pick6.pick6.pick6.pick6.pick6)
    ·refine TL.gFf rfl rfl rfl (TL.gFf rfl rfl rfl (TL.gFf rfl rfl rfl (TL.opP rfl (op_pickF rfl rfl) (TL.mv rfl rfl (TL.gFf rfl rfl rfl (TL.gFf rfl rfl rfl (TL.gFf rfl rfl rfl (TL.opP rfl (op_pickF rfl rfl) (TL.nil (TQ.then (TC.condF rfl (TC.exit (TQ.then_exit (TQ.loop_exit (TQ.block_hit ?_)))))))))))))))
     exact TQ.join (k2, g2, e2, ac, qs, kv2, rs2) (⟨hkv2, h12, hri.fin hps (by omega)⟩) ⟨rfl, rfl, rfl, rfl, rfl, rfl, rfl, trivial⟩ (fun _ h => h.pick6.pick6.pick6.pick6.pick6.pick6)
   ·rintro ⟨k2, g2, e2, ac, qs, kv2, rs2⟩ ⟨hkv2, h12, hfi⟩
    show TC _ _ _ _ [(0, .pointer (some ⟨g, 0, none⟩)), (1, .int .i64 (deep : Int)), (4, .pointer (some ⟨g4, 0, none⟩)), (5, .pointer (some ⟨g5, 0, none⟩)), (17, .int .i64 ((l.length : Int) + 1)), (18, .int .i64 (c : Int)), (6, .pointer (some ⟨g6, 0, none⟩))] _ _ (.blk g6 (.cells (nodeC 4 false nilS kv2 0 0 false 0).toArray 130 (0, 0)) :: .row kv2 130 8 (qs).length (encs (qs)) :: .blk g4 (.cells (nodeC 0 false nilS nilS 0 0 false 0).toArray 130 (0, 0)) :: .blk g5 (.cells (nodeC 5 false nilS kv 0 0 false 0).toArray 130 (0, 0)) :: .row kv 130 8 (ps).length (encs (ps)) :: fz rs2 :: .blk g (.cells [lv, .int .i64 (((k2 : Nat) : Int) : Int), .int .i64 (((g2 : Nat) : Int) : Int), .int .i64 (e2)].toArray 126 (0, 0)) :: F)
    refine TC.seq (TC.region (TL.hp (fun _ h => h.pick5.pick2) (TL.hp (fun _ h => fz_row h) (TL.opP rfl (op_field fld_sealskinref12_Part_Kids rfl) (TL.opV rfl (op_load ts_sl_sealskinref12_Part rfl m3 rfl) (TL.opV rfl (op_loadS tst_sealskinref12_Part rfl m1 rfl) ?_))))))
    refine TL.opX rfl (OpX.buildSlice (ps := #[(0, _)]) rfl (bs_sealskinref12_Part_1 (⟨4, false, nilS, kv2, 0, 0, false, 0, rfl, hkv2⟩ : Pc))) ?_; rintro _ _ ⟨g45, rfl, rfl⟩
    refine TL.hp (fun _ h => blk_row (k := 8) (m := 1) h rfl (by decide)) (TL.hp (fun _ h => h.pick5) ?_)
    refine TL.opX rfl (OpX.append (bytes := 96) tsl_sealskinref12_Part (by decide) (by decide) rfl rw1 (encs_one _) (by omega) (zs := encs (ps ++ [(⟨4, false, nilS, kv2, 0, 0, false, 0, rfl, hkv2⟩ : Pc)])) (encs_append _ _).symm) ?_; rintro v7 _ rfl
    refine TL.know (fun _ h => row1 h) (fun o7 => (TL.hp (fun _ h => row_len8 h) (TL.opP rfl (op_field fld_sealskinref12_Part_Kids rfl) (TL.hp (fun _ h => h.pick5) ?_))))
    refine TL.opX0 (OpX.store1 ts_sl_sealskinref12_Part rfl rfl (by first | rfl | assumption) rfl rfl) ?_; rintro _ _ rfl
    refine TL.nil (TQ.then (TC.seq (TC.region (TL.mv rfl rfl (TL.hp (fun _ h => h.pick6) ?_)))))
    refine TL.opX rfl (OpX.callX en_120 rfl (xis_x l _ _ k2 g2 hxl.cons.cons.cons.cons.cons.cons hln e2 124 (by decide))) ?_; rintro _ _ ⟨rfl, rfl⟩
    refine TL.opP rfl (op_not rfl rfl) (TL.nil (TQ.then ?_))
    refine TC.sp rfl (fun c6 => ?_) (fun c6 => ?_)
    ·rw [if_neg c6]
     refine TC.exit (TQ.block_miss rfl (TQ.then_exit (TQ.loop_exit (TQ.block_hit (TQ.then (TC.seq (TC.region (TL.opV rfl (op_loadS tst_sealskinref12_Part rfl m1 rfl) (TL.hp (fun _ h => h.pick6) ?_)))))))))
     refine TL.opX0 (OpX.storeS tst_sealskinref12_Part rfl rfl rfl rfl rfl (nc_one (by first | rfl | assumption | exact Pc.hs _) (by first | rfl | assumption | exact Pc.hk _))) ?_; rintro _ _ rfl
     refine TL.nil (TQ.then (TC.ret ?_))
     refine retc tst_sealskinref12_Part rfl rfl m0 rfl (fun w' hp => ?_)
     exact ⟨_, _, rfl, ⟨_, k2, g2, e2, ⟨5, false, nilS, v7, 0, 0, false, 0, rfl, by assumption⟩, rfl, hfi.last c6 (fun x hx => h12 (hrs hx)) hps1 h12, rfl⟩, fz_row (hp.drop6.drop4.drop2.tail.pick2.pick2)⟩
    ·rw [if_pos c6]
     obtain ⟨rfl, hq2, hq3⟩ := hfi.next (pPart_adv n deep) c6
     refine TC.skip (TQ.block_normal (TQ.then (TC.region (TL.opP rfl (op_add rfl rfl rfl (by omega) (by omega)) (TL.mv rfl rfl (TL.nil ?_))))))
     exact TQ.round (c + 1, k2 + 1, g2, 0, acc ++ [.seq ac], ps ++ [(⟨4, false, nilS, kv2, 0, 0, false, 0, rfl, hkv2⟩ : Pc)], v7, .rd kv2 8 qs.length (encs qs) :: rs2) (by (try dsimp only); exact ⟨by omega, by rw [List.length_append, List.length_singleton]; omega, by assumption, fun x hx => .tail _ (h12 (hrs hx)), FI.rows hq3 hps1 h12, hq2, fun h => absurd rfl h⟩) (by show l.length + 1 - (c + 1) < l.length + 1 - c; omega) ⟨rfl, rfl, rfl, rfl, rfl, rfl, trivial⟩ (fun _ h => h.drop5.drop3.pick3.pick3.pick3.pick4)
  ·exact absurd (hec (hei.over (by omega))) (by omega)

end Go.SK
