/- Layer 12: the document's reader: parts within parts. -/
import Derived.Test.YtpomdenbgdgbhaaDoorE79
set_option linter.unusedVariables false
set_option linter.unusedSimpArgs false
set_option maxRecDepth 100000
namespace Go.SK
open Go Go.RowKit Go.Proofs
variable {S : Nat → Prop} {w0 : World} {F L : List Res}
/-- What the document's reader of parts, n deep, is held to. -/
def HXPart (l : List Int) (n : Nat) : Prop := ∀ (S : Nat → Prop) (w0 : World) (F : List Res) (lv : Value) (g i gn : Nat) (hxl : Rdb F lv 1 l.length (l.map (Value.int .i32))) (rs : List Res) (deep : Nat), deep ≤ 20 → i < l.length → l.length < i + n → gn ≤ i →
  CallX Tryd.prog 140 [ptrV g, .int .i64 (deep : Int)] S w0 (fz rs :: rdBlk lv g i gn 0 :: F) (fun u L' => ∃ rs' i' g' e p, u = Pc.val p ∧ QRes rs rs' (pPart l n deep i gn) i' g' e p ∧ L' = fz rs' :: rdBlk lv g i' g' e :: F)
section
variable {l : List Int} {i j j1 j2 g gz : Nat} {o1 o2 : Option Int} {e3 e4 v1 : Int}
theorem num_e (h : (if o1.isSome then (0 : Int) else 90) = e3) (he : e3 = 0) : ∃ v, o1 = some v := by
  cases o1 with
  | none => exact absurd (h.trans he) (by decide)
  | some v => exact ⟨v, rfl⟩
theorem num_n (h : (if o1.isSome then (0 : Int) else 90) = e3) (he : e3 ≠ 0) : o1 = none ∧ e3 = 90 := by
  cases o1 with
  | none => exact ⟨rfl, h.symm⟩
  | some v => exact absurd h.symm he
/-- Behind a brace: the second number, or none. -/
theorem brace_b (h1 : numF l i = (o1, j1)) (he : (if o1.isSome then (0 : Int) else 90) = e3) (hc : ¬ pk l j1 e3 = 44) :
    (pk l j1 e3 = 125 → timesF l i = .ok (o1.getD 0, o1.getD 0) (j1 + 1) 0) ∧ (pk l j1 e3 ≠ 125 → timesF l i = .err (if e3 = 0 then 90 else e3) j1 ∧ (if e3 = 0 then (90 : Int) else e3) ≠ 0) := by
  refine ⟨fun h => ?_, fun h => ?_⟩
  · obtain ⟨rfl, _, hn⟩ := pk_some h (by decide)
    obtain ⟨v, rfl⟩ := num_e he rfl
    rw [timesF_b h1 (by rw [hn]; decide), closeT_a hn]; rfl
  · by_cases h0 : e3 = 0
    · subst h0
      obtain ⟨v, rfl⟩ := num_e he rfl
      rw [pk_0] at hc h
      exact ⟨by rw [if_pos rfl, timesF_b h1 hc, closeT_b h], by decide⟩
    · obtain ⟨rfl, rfl⟩ := num_n he h0
      exact ⟨by rw [if_neg (by decide), timesF_a h1], by decide⟩
theorem brace_c (h1 : numF l i = (some v1, j1)) (h2 : nx l j1 = 44) (h3 : nx l (j1 + 1) = 125) : timesF l i = .ok (v1, -1) (j1 + 2) 0 := by
  rw [timesF_c h1 h2 (by omega), closeT_a h3]
theorem brace_d (h1 : numF l i = (some v1, j1)) (h2 : nx l j1 = 44) (h3 : nx l (j1 + 1) ≠ 125) (hl : j1 < l.length) (h4 : numF l (j1 + 1) = (o2, j2)) (he : (if o2.isSome then (0 : Int) else 90) = e4) :
    (o2.getD 0 < v1 → timesF l i = .err (if e4 = 0 then 90 else e4) j2 ∧ (if e4 = 0 then (90 : Int) else e4) ≠ 0) ∧ (¬ o2.getD 0 < v1 → (pk l j2 e4 = 125 → timesF l i = .ok (v1, o2.getD 0) (j2 + 1) 0) ∧ (pk l j2 e4 ≠ 125 → timesF l i = .err (if e4 = 0 then 90 else e4) j2 ∧ (if e4 = 0 then (90 : Int) else e4) ≠ 0)) := by
  cases o2 with
  | none =>
    obtain rfl : e4 = 90 := he.symm
    have hT : timesF l i = .err 90 j2 := by
      by_cases hlt : j1 + 1 < l.length
      · exact timesF_d h1 h2 hlt h3 h4
      · rw [timesF_c h1 h2 (by omega), closeT_b h3]
        have hn := nx_out (l := l) (i := j1 + 1) (by omega)
        have : numF l (j1 + 1) = (none, j1 + 1) := by
          unfold numF
          obtain ⟨f, hf⟩ : ∃ f, l.length + 1 - (j1 + 1) = f := ⟨_, rfl⟩
          rw [hf]
          cases f with
          | zero => rfl
          | succ f => rw [numGo_out (by omega)]; rfl
        rw [this] at h4
        cases h4; rfl
    have h9 : (if (90 : Int) = 0 then (90 : Int) else 90) = 90 := rfl
    exact ⟨fun _ => ⟨hT, by decide⟩, fun _ => ⟨fun h => absurd (pk_some h (by decide)).1 (by decide), fun _ => ⟨hT, by decide⟩⟩⟩
  | some hi =>
    obtain rfl : e4 = 0 := he.symm
    obtain ⟨_, hj2, hd⟩ := numF_adv (by omega) h4
    obtain ⟨_, _, hlt⟩ := hd hi rfl
    have h5 : j1 + 1 < l.length := by omega
    refine ⟨fun h => ⟨by rw [if_pos rfl]; exact timesF_e h1 h2 h5 h3 h4 h, by decide⟩, fun h => ⟨fun h6 => ?_, fun h6 => ⟨?_, by decide⟩⟩⟩
    · rw [pk_0] at h6
      rw [timesF_f h1 h2 h5 h3 h4 h, closeT_a h6]; rfl
    · rw [pk_0] at h6
      rw [if_pos rfl, timesF_f h1 h2 h5 h3 h4 h, closeT_b h6]
end
section
variable {l : List Int} {P : Nat → Nat → PR Nd} {i g j j2 j4 gz : Nat} {t : Nd} {lo hi e e2 e3 : Int} {rs rs' : List Res} {p : Pc}
/-- No count follows. -/
theorem QRes.same (h : QRes rs rs' (P i g) j gz e p) (h1 : ¬ pk l j e = 42) (h2 : ¬ pk l j e = 43) (h3 : ¬ pk l j e = 63) (h4 : ¬ pk l j e = 123) : QRes rs rs' (countedF l P i g) j gz e p := by
  by_cases he : e = 0
  · subst he
    obtain ⟨t, hE, hP⟩ := h.good rfl
    simp only [pk_0] at h1 h2 h3 h4
    exact .ok h.sub (counted_no hE h1 h2 h3 h4) hP
  · exact .err h.sub (counted_err (h.bad he)) he
/-- Where a count was read, or went wrong. -/
def CI (R : PR Nd) (l : List Int) (t : Nd) (lo hi : Int) (j gz : Nat) (e : Int) : Prop := (e = 0 ∧ R = lazyF l t lo hi j gz ∧ j ≤ l.length) ∨ (e ≠ 0 ∧ R = .err e j)
theorem CI.fin {R : PR Nd} (h : CI R l t lo hi j gz e) (hj : (if pk l j e = 63 then j + 1 else j) = j4) :
    (isRepB (pk l j4 e) → R = .err (if e = 0 then 90 else e) j4 ∧ (if e = 0 then (90 : Int) else e) ≠ 0) ∧ (¬ isRepB (pk l j4 e) → ((e = 0 ∧ R = .ok (.rep t lo hi (decide (pk l j e = 63))) j4 gz) ∨ (e ≠ 0 ∧ R = .err e j4))) := by
  rcases h with ⟨rfl, hR, hl⟩ | ⟨he, hR⟩
  · rw [pk_0] at hj
    rw [pk_0 (i := j4), pk_0 (i := j)]
    have := lazyF_eq (l := l) (n := t) (lo := lo) (hi := hi) (g := gz) hj rfl
    rw [hR, this]
    exact ⟨fun h => ⟨by rw [if_pos h, if_pos rfl], by decide⟩, fun h => .inl ⟨rfl, by rw [if_neg h]⟩⟩
  · rw [pk_e he, if_neg (by decide)] at hj
    subst hj
    refine ⟨fun h => ⟨by rw [if_neg he, hR], by rw [if_neg he]; exact he⟩, fun _ => .inr ⟨he, hR⟩⟩
theorem CI.rep {R : PR Nd} (h : CI R l t lo hi j gz e) (hj : (if pk l j e = 63 then j + 1 else j) = j4) {lz : Bool} (hz : decide (pk l j e = 63) = lz) (hn : ¬ isRepB (pk l j4 e)) (hs : rs ⊆ rs') (ht : RNd rs' t p) {kv : Value} {hk : kv.oneCell' = true} :
    QRes rs (.rd kv 8 1 (encs [p]) :: rs') R j4 gz e ⟨6, false, nilS, kv, lo, hi, lz, 0, rfl, hk⟩ := by
  subst hz
  rcases (h.fin hj).2 hn with ⟨rfl, hR⟩ | ⟨he, hR⟩
  · exact .ok (fun x hx => .tail _ (hs hx)) hR (by unfold RNd; exact ⟨rfl, rfl, rfl, rfl, p, .head _, ht.mono (fun x hx => .tail _ hx)⟩)
  · exact .err (fun x hx => .tail _ (hs hx)) hR he
theorem CI.bad {R : PR Nd} (h : CI R l t lo hi j gz e) (hj : (if pk l j e = 63 then j + 1 else j) = j4) (hn : isRepB (pk l j4 e)) (hs : rs ⊆ rs') : QRes rs rs' R j4 gz (if e = 0 then 90 else e) p := .err hs ((h.fin hj).1 hn).1 ((h.fin hj).1 hn).2
/-- Where the closing brace is to stand. -/
def CB (R : PR Nd) (l : List Int) (t : Nd) (lo hi : Int) (j gz : Nat) (e : Int) : Prop := (e = 0 ∧ j < l.length ∧ R = lazyF l t lo hi (j + 1) gz) ∨ (e ≠ 0 ∧ R = .err e j)
theorem CB.next {R : PR Nd} (h : CB R l t lo hi j gz 0) : CI R l t lo hi (j + 1) gz 0 := by
  rcases h with ⟨_, a, b⟩ | ⟨a, _⟩
  · exact .inl ⟨rfl, b, a⟩
  · exact absurd rfl a
theorem CB.lt {R : PR Nd} (h : CB R l t lo hi j gz 0) : j < l.length := by
  rcases h with ⟨_, a, _⟩ | ⟨a, _⟩
  · exact a
  · exact absurd rfl a
theorem CB.stay {R : PR Nd} (h : CB R l t lo hi j gz e) (he : e ≠ 0) : CI R l t lo hi j gz e := by
  rcases h with ⟨a, _⟩ | ⟨a, b⟩
  · exact absurd a he
  · exact .inr ⟨a, b⟩
theorem CB.yes (hE : P i g = .ok t j2 gz) (h2 : nx l j2 = 123) (hl : j < l.length) (hT : timesF l (j2 + 1) = .ok (lo, hi) (j + 1) 0) : CB (countedF l P i g) l t lo hi j gz 0 := .inl ⟨rfl, hl, counted_d hE h2 hT⟩
theorem CB.no (hE : P i g = .ok t j2 gz) (h2 : nx l j2 = 123) (hT : timesF l (j2 + 1) = .err e j ∧ e ≠ 0) : CB (countedF l P i g) l t lo hi j gz e := .inr ⟨hT.2, counted_de hE h2 hT.1⟩
end
set_option maxHeartbeats 1000000
theorem xcounted_x (l : List Int) (lv : Value) (g i gn : Nat) (hxl : Rdb F lv 1 l.length (l.map (Value.int .i32))) (hln : l.length ≤ 200) (hps : ∀ x ∈ l, 0 ≤ x) (rs : List Res) (n deep : Nat) (hP : HXPart l n) (hd : deep ≤ 20) (hi : i < l.length) (hn : l.length < i + n) (hgi : gn ≤ i) :
    CallX Tryd.prog 119 [.pointer (some ⟨g, 0, none⟩), .int .i64 (deep : Int)] S w0 (fz rs :: .blk g (.cells [lv, .int .i64 (((i : Nat) : Int) : Int), .int .i64 (((gn : Nat) : Int) : Int), .int .i64 (0)].toArray 126 (0, 0)) :: F) (fun u L' => ∃ rs' i' g' e p, u = Pc.val p ∧ QRes rs rs' (countedF l (pPart l n deep) i gn) i' g' e p ∧ L' = fz rs' :: .blk g (.cells [lv, .int .i64 (((i' : Nat) : Int) : Int), .int .i64 (((g' : Nat) : Int) : Int), .int .i64 (e)].toArray 126 (0, 0)) :: F) := by
 intro w hp
 refine calls_start Tryd.func119 rfl rfl rfl (hp) ?_
 refine TC.seq (TC.region ?_)
 refine TL.opX rfl (OpX.alloc tz_sealskinref12_Part rfl) ?_; rintro _ _ ⟨g4, rfl, rfl⟩
 refine TL.nil (TQ.then (TC.seq (TC.region (TL.mv rfl rfl (TL.mv rfl rfl (TL.hp (fun _ h => h.pick2.pick2) ?_))))))
 refine TL.opX rfl (OpX.callX en_140 rfl (hP _ _ _ _ _ _ _ hxl.cons rs deep hd hi hn hgi)) ?_; rintro _ _ ⟨rz1, iz1, gz1, ez1, pz1, rfl, hR1, rfl⟩
 refine TL.opX rfl (OpX.alloc tz_sealskinref12_Part rfl) ?_; rintro _ _ ⟨g5, rfl, rfl⟩
 refine TL.opX0 (OpX.storeS tst_sealskinref12_Part rfl rfl rfl rfl rfl (nc_one (by first | rfl | assumption | exact Pc.hs _) (by first | rfl | assumption | exact Pc.hk _))) ?_; rintro _ _ rfl
 refine TL.nil (TQ.then (TC.seq (TC.region (TL.opP rfl (op_build (ps := #[(0, _), (4, _), (5, _)]) rfl (bl_sealskinref12_Part_045 _ _ _)) ?_))))
 refine TL.opX rfl (OpX.alloc tz_sealskinref12_Part rfl) ?_; rintro _ _ ⟨g6, rfl, rfl⟩
 refine TL.opX0 (OpX.storeS tst_sealskinref12_Part rfl rfl rfl rfl rfl (nc_one (by first | rfl | assumption | exact Pc.hs _) (by first | rfl | assumption | exact Pc.hk _))) ?_; rintro _ _ rfl
 refine TL.nil (TQ.then ?_)
 refine TC.join (ι := Int × Int × Nat × Int) (fun (lo, hi, j, e2) => [(0, .pointer (some ⟨g, 0, none⟩)), (4, .pointer (some ⟨g4, 0, none⟩)), (5, .pointer (some ⟨g5, 0, none⟩)), (6, .pointer (some ⟨g6, 0, none⟩))]) (fun (lo, hi, j, e2) => .blk g4 (.cells (nodeC 0 false nilS nilS 0 0 false 0).toArray 130 (0, 0)) :: .blk g5 (.cells (Pc.cs pz1).toArray 130 (0, 0)) :: .blk g6 (.cells (nodeC 6 false nilS nilS lo hi false 0).toArray 130 (0, 0)) :: fz rz1 :: .blk g (.cells [lv, .int .i64 (((j : Nat) : Int) : Int), .int .i64 (((gz1 : Nat) : Int) : Int), .int .i64 (e2)].toArray 126 (0, 0)) :: F) (fun (lo, hi, j, e2) => ∃ t, RNd rz1 t pz1 ∧ CB (countedF l (pPart l n deep) i gn) l t lo hi j gz1 e2) ?_ ?_
 ·refine TC.seq (TC.region (TL.mv rfl rfl (TL.hp (fun _ h => h.pick3) ?_)))
  refine TL.opX rfl (OpX.callX en_118 rfl (xpeek_x l _ _ iz1 gz1 hxl.cons.cons.cons.cons hln ez1)) ?_; rintro _ _ ⟨rfl, rfl⟩
  refine TL.nil (TQ.then (TC.block (TC.seq (TC.region (TL.opP rfl (op_eql rfl rfl) (TL.as rfl rfl (TL.nil (TQ.then ?_))))))))
  refine TC.sp rfl (fun c1 => ?_) (fun c1 => ?_)
  ·obtain ⟨rfl, hlt, hnx⟩ := pk_some c1 (by decide)
   obtain ⟨t, hE, hPN⟩ := hR1.good rfl
   refine TC.seq (TC.region (TL.opP rfl (op_field fld_sealskinref12_Part_From rfl) (TL.hp (fun _ h => h.pick1) ?_)))
   refine TL.opX0 (OpX.store1 ts_int rfl rfl (by first | rfl | assumption) rfl rfl) ?_; rintro _ _ rfl
   refine TL.nil (TQ.then (TC.region (TL.opP rfl (op_field fld_sealskinref12_Part_To rfl) ?_)))
   refine TL.opX0 (OpX.store1 ts_int rfl rfl (by first | rfl | assumption) rfl rfl) ?_; rintro _ _ rfl
   refine TL.nil (TQ.block_normal ?_)
   exact TQ.join (0, (-1), iz1, 0) (⟨t, hPN, (.inl ⟨rfl, hlt, counted_a hE hnx⟩)⟩) ⟨rfl, rfl, rfl, rfl, trivial⟩ (fun _ h => h.pick1.pick3.pick2.pick3.pick4)
  ·refine TC.seq (TC.region (TL.opP rfl (op_eql rfl rfl) (TL.as rfl rfl (TL.nil (TQ.then ?_)))))
   refine TC.sp rfl (fun c2 => ?_) (fun c2 => ?_)
   ·obtain ⟨rfl, hlt, hnx⟩ := pk_some c2 (by decide)
    obtain ⟨t, hE, hPN⟩ := hR1.good rfl
    refine TC.region (TL.opP rfl (op_field fld_sealskinref12_Part_To rfl) (TL.hp (fun _ h => h.pick1) ?_))
    refine TL.opX0 (OpX.store1 ts_int rfl rfl (by first | rfl | assumption) rfl rfl) ?_; rintro _ _ rfl
    refine TL.nil (TQ.block_normal ?_)
    exact TQ.join (1, (-1), iz1, 0) (⟨t, hPN, (.inl ⟨rfl, hlt, counted_b hE hnx⟩)⟩) ⟨rfl, rfl, rfl, rfl, trivial⟩ (fun _ h => h.pick1.pick3.pick2.pick3.pick4)
   ·refine TC.seq (TC.region (TL.opP rfl (op_eql rfl rfl) (TL.as rfl rfl (TL.nil (TQ.then ?_)))))
    refine TC.sp rfl (fun c3 => ?_) (fun c3 => ?_)
    ·obtain ⟨rfl, hlt, hnx⟩ := pk_some c3 (by decide)
     obtain ⟨t, hE, hPN⟩ := hR1.good rfl
     refine TC.region (TL.opP rfl (op_field fld_sealskinref12_Part_From rfl) (TL.hp (fun _ h => h.pick1) ?_))
     refine TL.opX0 (OpX.store1 ts_int rfl rfl (by first | rfl | assumption) rfl rfl) ?_; rintro _ _ rfl
     refine TL.nil (TQ.block_normal ?_)
     exact TQ.join (0, 1, iz1, 0) (⟨t, hPN, (.inl ⟨rfl, hlt, counted_c hE hnx⟩)⟩) ⟨rfl, rfl, rfl, rfl, trivial⟩ (fun _ h => h.pick1.pick3.pick2.pick3.pick4)
    ·refine TC.seq (TC.region (TL.opP rfl (op_eql rfl rfl) (TL.as rfl rfl (TL.nil (TQ.then ?_)))))
     refine TC.sp rfl (fun c4 => ?_) (fun c4 => ?_)
     ·obtain ⟨rfl, hlt, hnx⟩ := pk_some c4 (by decide)
      obtain ⟨t, hE, hPN⟩ := hR1.good rfl
      obtain ⟨o1, j1, h1⟩ : ∃ o j, numF l (iz1 + 1) = (o, j) := ⟨_, _, rfl⟩
      obtain ⟨a1, b1, d1⟩ := numF_adv (by omega) h1
      obtain ⟨e3, he3⟩ : ∃ e3, (if o1.isSome then (0 : Int) else 90) = e3 := ⟨_, rfl⟩
      refine TC.seq (TC.region (TL.mv rfl rfl (TL.opP rfl (op_nilCheck rfl) (TL.opP rfl (op_field fld_sealskinref12_reader_at rfl) (TL.opV rfl (op_load ts_int rfl m0 rfl) (TL.opP rfl (op_add (r := ((iz1 + 1 : Nat) : Int)) rfl rfl (by omega) (by omega) (by omega)) (TL.opP rfl (op_nilCheck rfl) (TL.opP rfl (op_field fld_sealskinref12_reader_at rfl) ?_))))))))
      refine TL.opX0 (OpX.store1 ts_int rfl rfl (by first | rfl | assumption) rfl rfl) ?_; rintro _ _ rfl
      refine TL.nil (TQ.then (TC.seq (TC.region (TL.opP rfl (op_move rfl) ?_))))
      refine TL.opX rfl (OpX.callX en_141 rfl (xnum_x l _ _ (iz1 + 1) gz1 hxl.cons.cons.cons.cons hln (by omega) o1 j1 h1)) ?_; rintro _ _ ⟨rfl, rfl⟩
      rw [he3]
      refine TL.opP rfl (op_field fld_sealskinref12_Part_From rfl) (TL.hp (fun _ h => h.pick1) ?_)
      refine TL.opX0 (OpX.store1 ts_int rfl rfl (by first | rfl | assumption) rfl rfl) ?_; rintro _ _ rfl
      refine TL.nil (TQ.then (TC.seq (TC.region (TL.opP rfl (op_field fld_sealskinref12_Part_From rfl) (TL.opV rfl (op_load ts_int rfl m0 rfl) (TL.opP rfl (op_field fld_sealskinref12_Part_To rfl) ?_))))))
      refine TL.opX0 (OpX.store1 ts_int rfl rfl (by first | rfl | assumption) rfl rfl) ?_; rintro _ _ rfl
      refine TL.nil (TQ.then (TC.seq (TC.seq (TC.region (TL.mv rfl rfl (TL.hp (fun _ h => h.pick1) ?_))))))
      refine TL.opX rfl (OpX.callX en_120 rfl (xis_x l _ _ j1 gz1 hxl.cons.cons.cons.cons hln e3 44 (by decide))) ?_; rintro _ _ ⟨rfl, rfl⟩
      refine TL.nil (TQ.then ?_)
      refine TC.sp rfl (fun c5 => ?_) (fun c5 => ?_)
      ·rw [if_pos c5]
       obtain ⟨rfl, hlt1, h44⟩ := pk_some c5 (by decide)
       obtain ⟨v1, rfl⟩ := num_e he3 rfl
       refine TC.seq (TC.region (TL.opP rfl (op_field fld_sealskinref12_Part_To rfl) (TL.hp (fun _ h => h.pick1) ?_)))
       refine TL.opX0 (OpX.store1 ts_int rfl rfl (by first | rfl | assumption) rfl rfl) ?_; rintro _ _ rfl
       refine TL.nil (TQ.then (TC.seq (TC.region (TL.mv rfl rfl (TL.hp (fun _ h => h.pick1) ?_)))))
       refine TL.opX rfl (OpX.callX en_118 rfl (xpeek0_x l _ _ (j1 + 1) gz1 hxl.cons.cons.cons.cons hln)) ?_; rintro _ _ ⟨rfl, rfl⟩
       refine TL.opP rfl (op_neq rfl rfl) (TL.nil (TQ.then ?_))
       refine TC.sp rfl (fun c6 => ?_) (fun c6 => ?_)
       ·obtain ⟨o2, j2, h2⟩ : ∃ o j, numF l (j1 + 1) = (o, j) := ⟨_, _, rfl⟩
        obtain ⟨a2, b2, d2⟩ := numF_adv (by omega) h2
        obtain ⟨e4, he4⟩ : ∃ e4, (if o2.isSome then (0 : Int) else 90) = e4 := ⟨_, rfl⟩
        obtain ⟨bd1, bd2⟩ := brace_d h1 h44 c6 hlt1 h2 he4
        refine TC.seq (TC.region (TL.opP rfl (op_move rfl) ?_))
        refine TL.opX rfl (OpX.callX en_141 rfl (xnum_x l _ _ (j1 + 1) gz1 hxl.cons.cons.cons.cons hln (by omega) o2 j2 h2)) ?_; rintro _ _ ⟨rfl, rfl⟩
        rw [he4]
        refine TL.opP rfl (op_field fld_sealskinref12_Part_To rfl) (TL.hp (fun _ h => h.pick1) ?_)
        refine TL.opX0 (OpX.store1 ts_int rfl rfl (by first | rfl | assumption) rfl rfl) ?_; rintro _ _ rfl
        refine TL.nil (TQ.then (TC.seq (TC.region (TL.opP rfl (op_field fld_sealskinref12_Part_To rfl) (TL.opV rfl (op_load ts_int rfl m0 rfl) (TL.opP rfl (op_field fld_sealskinref12_Part_From rfl) (TL.opV rfl (op_load ts_int rfl m0 rfl) (TL.opP rfl (op_lss rfl rfl) (TL.nil (TQ.then ?_))))))))))
        refine TC.sp rfl (fun c7 => ?_) (fun c7 => ?_)
        ·refine TC.region (TL.mv rfl rfl (TL.hp (fun _ h => h.pick1) ?_))
         refine TL.opX rfl (OpX.callX en_85 rfl (xfail_x l _ _ j2 gz1 hxl.cons.cons.cons.cons hln e4 90)) ?_; rintro _ _ ⟨rfl, rfl⟩
         obtain ⟨e5, he5⟩ : ∃ e5, (if e4 = 0 then (90 : Int) else e4) = e5 := ⟨_, rfl⟩
         rw [he5]
         have hb7 := bd1 c7
         rw [he5] at hb7
         refine TL.nil (TQ.then (TC.seq (TC.region (TL.opP rfl (op_move rfl) ?_))))
         refine TL.opX rfl (OpX.callX en_118 rfl (xpeek_x l _ _ _ _ hxl.cons.cons.cons.cons hln _)) ?_; rintro _ _ ⟨rfl, rfl⟩
         refine TL.opP rfl (op_neq rfl rfl) (TL.nil (TQ.then ?_))
         refine TC.sp rfl (fun c8 => ?_) (fun c8 => ?_)
         ·refine TC.region (TL.opP rfl (op_move rfl) ?_)
          refine TL.opX rfl (OpX.callX en_85 rfl (xfail_x l _ _ _ _ hxl.cons.cons.cons.cons hln _ 90)) ?_; rintro _ _ ⟨rfl, rfl⟩
          refine TL.nil (TQ.block_normal ?_)
          exact TQ.join (v1, (o2.getD 0), j2, (if e5 = 0 then 90 else e5)) (⟨t, hPN, (.no hE hnx ⟨by rw [if_neg hb7.2]; exact hb7.1, by rw [if_neg hb7.2]; exact hb7.2⟩)⟩) ⟨rfl, rfl, rfl, rfl, trivial⟩ (fun _ h => h.pick3.pick2.pick3.pick4)
         ·exact absurd (pk_some (Decidable.not_not.1 c8) (by decide)).1 hb7.2
        ·refine TC.skip (TQ.then (TC.seq (TC.region (TL.mv rfl rfl (TL.hp (fun _ h => h.pick1) ?_)))))
         refine TL.opX rfl (OpX.callX en_118 rfl (xpeek_x l _ _ _ _ hxl.cons.cons.cons.cons hln _)) ?_; rintro _ _ ⟨rfl, rfl⟩
         refine TL.opP rfl (op_neq rfl rfl) (TL.nil (TQ.then ?_))
         refine TC.sp rfl (fun c9 => ?_) (fun c9 => ?_)
         ·refine TC.region (TL.opP rfl (op_move rfl) ?_)
          refine TL.opX rfl (OpX.callX en_85 rfl (xfail_x l _ _ _ _ hxl.cons.cons.cons.cons hln _ 90)) ?_; rintro _ _ ⟨rfl, rfl⟩
          refine TL.nil (TQ.block_normal ?_)
          exact TQ.join (v1, (o2.getD 0), j2, (if e4 = 0 then 90 else e4)) (⟨t, hPN, (.no hE hnx ((bd2 c7).2 c9))⟩) ⟨rfl, rfl, rfl, rfl, trivial⟩ (fun _ h => h.pick3.pick2.pick3.pick4)
         ·obtain ⟨rfl, hlt5, _⟩ := pk_some (Decidable.not_not.1 c9) (by decide)
          refine TC.skip (TQ.block_normal ?_)
          exact TQ.join (v1, (o2.getD 0), j2, 0) (⟨t, hPN, (.yes hE hnx hlt5 ((bd2 c7).1 (Decidable.not_not.1 c9)))⟩) ⟨rfl, rfl, rfl, rfl, trivial⟩ (fun _ h => h.pick3.pick2.pick3.pick4)
       ·refine TC.skip (TQ.then (TC.seq (TC.region (TL.opP rfl (op_move rfl) ?_))))
        refine TL.opX rfl (OpX.callX en_118 rfl (xpeek_x l _ _ _ _ hxl.cons.cons.cons.cons hln _)) ?_; rintro _ _ ⟨rfl, rfl⟩
        refine TL.opP rfl (op_neq rfl rfl) (TL.nil (TQ.then ?_))
        refine TC.sp rfl (fun c10 => ?_) (fun c10 => ?_)
        ·exact absurd (pk_0.trans (Decidable.not_not.1 c6)) c10
        ·refine TC.skip (TQ.block_normal ?_)
         exact TQ.join (v1, (-1), j1 + 1, 0) (⟨t, hPN, (.yes hE hnx (nx_some (Decidable.not_not.1 c6) (by decide)) (brace_c h1 h44 (Decidable.not_not.1 c6)))⟩) ⟨rfl, rfl, rfl, rfl, trivial⟩ (fun _ h => h.pick3.pick2.pick3.pick4)
      ·rw [if_neg c5]
       obtain ⟨bb1, bb2⟩ := brace_b h1 he3 c5
       refine TC.skip (TQ.then (TC.seq (TC.region (TL.opP rfl (op_move rfl) ?_))))
       refine TL.opX rfl (OpX.callX en_118 rfl (xpeek_x l _ _ _ _ hxl.cons.cons.cons.cons hln _)) ?_; rintro _ _ ⟨rfl, rfl⟩
       refine TL.opP rfl (op_neq rfl rfl) (TL.nil (TQ.then ?_))
       refine TC.sp rfl (fun c11 => ?_) (fun c11 => ?_)
       ·refine TC.region (TL.opP rfl (op_move rfl) ?_)
        refine TL.opX rfl (OpX.callX en_85 rfl (xfail_x l _ _ _ _ hxl.cons.cons.cons.cons hln _ 90)) ?_; rintro _ _ ⟨rfl, rfl⟩
        refine TL.nil (TQ.block_normal ?_)
        exact TQ.join ((o1.getD 0), (o1.getD 0), j1, (if e3 = 0 then 90 else e3)) (⟨t, hPN, (.no hE hnx (bb2 c11))⟩) ⟨rfl, rfl, rfl, rfl, trivial⟩ (fun _ h => h.pick3.pick2.pick3.pick4)
       ·obtain ⟨rfl, hlt5, _⟩ := pk_some (Decidable.not_not.1 c11) (by decide)
        refine TC.skip (TQ.block_normal ?_)
        exact TQ.join ((o1.getD 0), (o1.getD 0), j1, 0) (⟨t, hPN, (.yes hE hnx hlt5 (bb1 (Decidable.not_not.1 c11)))⟩) ⟨rfl, rfl, rfl, rfl, trivial⟩ (fun _ h => h.pick3.pick2.pick3.pick4)
     ·refine TC.seq (TC.region (TL.opV rfl (op_loadS tst_sealskinref12_Part rfl m2 rfl) (TL.hp (fun _ h => h.pick4) ?_)))
      refine TL.opX0 (OpX.storeS tst_sealskinref12_Part rfl rfl rfl rfl rfl (nc_one (by first | rfl | assumption | exact Pc.hs _) (by first | rfl | assumption | exact Pc.hk _))) ?_; rintro _ _ rfl
      refine TL.nil (TQ.then (TC.ret (TQ.block_ret (TQ.join_ret ?_))))
      refine retc tst_sealskinref12_Part rfl rfl m0 rfl (fun w' hp => ?_)
      exact ⟨_, _, rfl, ⟨rz1, iz1, gz1, ez1, pz1, rfl, hR1.same c1 c2 c3 c4, rfl⟩, (hp.drop3.drop2.tail.pick1)⟩
 ·rintro ⟨lo, hi, j, e2⟩ ⟨t, hPN, hcb⟩
  show TC _ _ _ _ [(0, .pointer (some ⟨g, 0, none⟩)), (4, .pointer (some ⟨g4, 0, none⟩)), (5, .pointer (some ⟨g5, 0, none⟩)), (6, .pointer (some ⟨g6, 0, none⟩))] _ _ (.blk g4 (.cells (nodeC 0 false nilS nilS 0 0 false 0).toArray 130 (0, 0)) :: .blk g5 (.cells (Pc.cs pz1).toArray 130 (0, 0)) :: .blk g6 (.cells (nodeC 6 false nilS nilS lo hi false 0).toArray 130 (0, 0)) :: fz rz1 :: .blk g (.cells [lv, .int .i64 (((j : Nat) : Int) : Int), .int .i64 (((gz1 : Nat) : Int) : Int), .int .i64 (e2)].toArray 126 (0, 0)) :: F)
  refine TC.join (ι := Nat × Int) (fun (j3, e3) => [(0, .pointer (some ⟨g, 0, none⟩)), (4, .pointer (some ⟨g4, 0, none⟩)), (5, .pointer (some ⟨g5, 0, none⟩)), (6, .pointer (some ⟨g6, 0, none⟩))]) (fun (j3, e3) => .blk g4 (.cells (nodeC 0 false nilS nilS 0 0 false 0).toArray 130 (0, 0)) :: .blk g5 (.cells (Pc.cs pz1).toArray 130 (0, 0)) :: .blk g6 (.cells (nodeC 6 false nilS nilS lo hi false 0).toArray 130 (0, 0)) :: fz rz1 :: .blk g (.cells [lv, .int .i64 (((j3 : Nat) : Int) : Int), .int .i64 (((gz1 : Nat) : Int) : Int), .int .i64 (e3)].toArray 126 (0, 0)) :: F) (fun (j3, e3) => CI (countedF l (pPart l n deep) i gn) l t lo hi j3 gz1 e3) ?_ ?_
  ·refine TC.seq (TC.region (TL.mv rfl rfl (TL.opP rfl (op_nilCheck rfl) (TL.opP rfl (op_field fld_sealskinref12_reader_e rfl) (TL.opV rfl (op_load ts_api_Errno rfl m4 rfl) (TL.opP rfl (op_eql rfl rfl) (TL.nil (TQ.then ?_))))))))
   refine TC.sp rfl (fun c12 => ?_) (fun c12 => ?_)
   ·subst c12
    have hjb := hcb.lt
    refine TC.region (TL.mv rfl rfl (TL.opP rfl (op_nilCheck rfl) (TL.opP rfl (op_field fld_sealskinref12_reader_at rfl) (TL.opV rfl (op_load ts_int rfl m4 rfl) (TL.opP rfl (op_add (r := ((j + 1 : Nat) : Int)) rfl rfl (by omega) (by omega) (by omega)) (TL.opP rfl (op_nilCheck rfl) (TL.opP rfl (op_field fld_sealskinref12_reader_at rfl) (TL.hp (fun _ h => h.pick4) ?_))))))))
    refine TL.opX0 (OpX.store1 ts_int rfl rfl (by first | rfl | assumption) rfl rfl) ?_; rintro _ _ rfl
    refine TL.nil ?_
    exact TQ.join (j + 1, 0) (hcb.next) ⟨rfl, rfl, rfl, rfl, trivial⟩ (fun _ h => h.pick4.pick4.pick4.pick4)
   ·refine TC.skip ?_
    exact TQ.join (j, e2) ((hcb.stay c12)) ⟨rfl, rfl, rfl, rfl, trivial⟩ (fun _ h => h)
  ·rintro ⟨j3, e3⟩ hci
   show TC _ _ _ _ [(0, .pointer (some ⟨g, 0, none⟩)), (4, .pointer (some ⟨g4, 0, none⟩)), (5, .pointer (some ⟨g5, 0, none⟩)), (6, .pointer (some ⟨g6, 0, none⟩))] _ _ (.blk g4 (.cells (nodeC 0 false nilS nilS 0 0 false 0).toArray 130 (0, 0)) :: .blk g5 (.cells (Pc.cs pz1).toArray 130 (0, 0)) :: .blk g6 (.cells (nodeC 6 false nilS nilS lo hi false 0).toArray 130 (0, 0)) :: fz rz1 :: .blk g (.cells [lv, .int .i64 (((j3 : Nat) : Int) : Int), .int .i64 (((gz1 : Nat) : Int) : Int), .int .i64 (e3)].toArray 126 (0, 0)) :: F)
   refine TC.seq (TC.region (TL.mv rfl rfl (TL.hp (fun _ h => h.pick4) ?_)))
   refine TL.opX rfl (OpX.callX en_120 rfl (xis_x l _ _ j3 gz1 hxl.cons.cons.cons.cons hln e3 63 (by decide))) ?_; rintro _ _ ⟨rfl, rfl⟩
   obtain ⟨j4, hj4⟩ : ∃ j4, (if pk l j3 e3 = 63 then j3 + 1 else j3) = j4 := ⟨_, rfl⟩
   obtain ⟨lz, hlz⟩ : ∃ b, decide (pk l j3 e3 = 63) = b := ⟨_, rfl⟩
   rw [hj4, hlz]
   refine TL.opP rfl (op_field fld_sealskinref12_Part_Lazy rfl) (TL.hp (fun _ h => h.pick3) ?_)
   refine TL.opX0 (OpX.store1 ts_bool rfl rfl (by first | rfl | assumption) rfl rfl) ?_; rintro _ _ rfl
   refine TL.nil (TQ.then (TC.seq (TC.region (TL.opV rfl (op_loadS tst_sealskinref12_Part rfl m3 rfl) ?_))))
   refine TL.opX rfl (OpX.buildSlice (ps := #[(0, _)]) rfl (bs_sealskinref12_Part_1 pz1)) ?_; rintro _ _ ⟨g77, rfl, rfl⟩
   refine TL.hp (fun _ h => blk_row (k := 8) (m := 1) h rfl (by decide)) (TL.opP rfl (op_field fld_sealskinref12_Part_Kids rfl) (TL.hp (fun _ h => h.pick1) ?_))
   refine TL.opX0 (OpX.store1 ts_sl_sealskinref12_Part rfl rfl (by first | rfl | assumption) rfl rfl) ?_; rintro _ _ rfl
   refine TL.nil (TQ.then (TC.seq (TC.seq (TC.region (TL.mv rfl rfl (TL.hp (fun _ h => h.pick2) ?_))))))
   refine TL.opX rfl (OpX.callX en_118 rfl (xpeek_x l _ _ j4 gz1 hxl.cons.cons.cons.cons.cons hln e3)) ?_; rintro _ _ ⟨rfl, rfl⟩
   refine TL.as rfl rfl (TL.nil (TQ.then (TC.seq (TC.region (TL.mv rfl rfl (TL.opP rfl (op_eql rfl rfl) (TL.opP rfl (op_move rfl) ?_)))))))
   refine TL.sp (fun c13 => ?_) (fun c13 => ?_)
   ·refine TL.gFt rfl rfl rfl (TL.gFt rfl rfl rfl (TL.opP rfl (op_pickT rfl rfl) (TL.mv rfl rfl (TL.gFt rfl rfl rfl (TL.gFt rfl rfl rfl (TL.opP rfl (op_pickT rfl rfl) (TL.mv rfl rfl (TL.gFt rfl rfl rfl (TL.gFt rfl rfl rfl (TL.opP rfl (op_pickT rfl rfl) (TL.nil (TQ.then (TC.condT rfl (TC.region (TL.opP rfl (op_move rfl) ?_)))))))))))))))
    refine TL.opX rfl (OpX.callX en_85 rfl (xfail_x l _ _ j4 gz1 hxl.cons.cons.cons.cons.cons hln e3 90)) ?_; rintro _ _ ⟨rfl, rfl⟩
    refine TL.nil (TQ.then (TC.seq (TC.region (TL.opV rfl (op_loadS tst_sealskinref12_Part rfl m1 rfl) (TL.hp (fun _ h => h.pick3) ?_)))))
    refine TL.opX0 (OpX.storeS tst_sealskinref12_Part rfl rfl rfl rfl rfl (nc_one (by first | rfl | assumption | exact Pc.hs _) (by first | rfl | assumption | exact Pc.hk _))) ?_; rintro _ _ rfl
    refine TL.nil (TQ.then (TC.ret ?_))
    refine retc tst_sealskinref12_Part rfl rfl m0 rfl (fun w' hp => ?_)
    exact ⟨_, _, rfl, ⟨rz1, j4, gz1, _, ⟨6, false, nilS, _, lo, hi, lz, 0, rfl, rfl⟩, rfl, hci.bad hj4 (by unfold isRepB; omega) hR1.sub, rfl⟩, Hp.tail (hp.drop4.drop2.tail.pick2.pick2)⟩
   ·refine TL.gT rfl rfl (TL.mv rfl rfl (TL.gT rfl rfl (TL.opP rfl (op_eql rfl rfl) (TL.opP rfl (op_pickF rfl rfl) (TL.opP rfl (op_move rfl) ?_)))))
    refine TL.sp (fun c14 => ?_) (fun c14 => ?_)
    ·refine TL.gFt rfl rfl rfl (TL.gFt rfl rfl rfl (TL.opP rfl (op_pickT rfl rfl) (TL.mv rfl rfl (TL.gFt rfl rfl rfl (TL.gFt rfl rfl rfl (TL.opP rfl (op_pickT rfl rfl) (TL.nil (TQ.then (TC.condT rfl (TC.region (TL.opP rfl (op_move rfl) ?_)))))))))))
     refine TL.opX rfl (OpX.callX en_85 rfl (xfail_x l _ _ j4 gz1 hxl.cons.cons.cons.cons.cons hln e3 90)) ?_; rintro _ _ ⟨rfl, rfl⟩
     refine TL.nil (TQ.then (TC.seq (TC.region (TL.opV rfl (op_loadS tst_sealskinref12_Part rfl m1 rfl) (TL.hp (fun _ h => h.pick3) ?_)))))
     refine TL.opX0 (OpX.storeS tst_sealskinref12_Part rfl rfl rfl rfl rfl (nc_one (by first | rfl | assumption | exact Pc.hs _) (by first | rfl | assumption | exact Pc.hk _))) ?_; rintro _ _ rfl
     refine TL.nil (TQ.then (TC.ret ?_))
     refine retc tst_sealskinref12_Part rfl rfl m0 rfl (fun w' hp => ?_)
     exact ⟨_, _, rfl, ⟨rz1, j4, gz1, _, ⟨6, false, nilS, _, lo, hi, lz, 0, rfl, rfl⟩, rfl, hci.bad hj4 (by unfold isRepB; omega) hR1.sub, rfl⟩, Hp.tail (hp.drop4.drop2.tail.pick2.pick2)⟩
    ·refine TL.gT rfl rfl (TL.mv rfl rfl (TL.gT rfl rfl (TL.opP rfl (op_eql rfl rfl) (TL.opP rfl (op_pickF rfl rfl) (TL.opP rfl (op_move rfl) ?_)))))
     refine TL.sp (fun c15 => ?_) (fun c15 => ?_)
     ·refine TL.gFt rfl rfl rfl (TL.gFt rfl rfl rfl (TL.opP rfl (op_pickT rfl rfl) (TL.nil (TQ.then (TC.condT rfl (TC.region (TL.opP rfl (op_move rfl) ?_)))))))
      refine TL.opX rfl (OpX.callX en_85 rfl (xfail_x l _ _ j4 gz1 hxl.cons.cons.cons.cons.cons hln e3 90)) ?_; rintro _ _ ⟨rfl, rfl⟩
      refine TL.nil (TQ.then (TC.seq (TC.region (TL.opV rfl (op_loadS tst_sealskinref12_Part rfl m1 rfl) (TL.hp (fun _ h => h.pick3) ?_)))))
      refine TL.opX0 (OpX.storeS tst_sealskinref12_Part rfl rfl rfl rfl rfl (nc_one (by first | rfl | assumption | exact Pc.hs _) (by first | rfl | assumption | exact Pc.hk _))) ?_; rintro _ _ rfl
      refine TL.nil (TQ.then (TC.ret ?_))
      refine retc tst_sealskinref12_Part rfl rfl m0 rfl (fun w' hp => ?_)
      exact ⟨_, _, rfl, ⟨rz1, j4, gz1, _, ⟨6, false, nilS, _, lo, hi, lz, 0, rfl, rfl⟩, rfl, hci.bad hj4 (by unfold isRepB; omega) hR1.sub, rfl⟩, Hp.tail (hp.drop4.drop2.tail.pick2.pick2)⟩
     ·refine TL.gT rfl rfl (TL.mv rfl rfl (TL.gT rfl rfl (TL.opP rfl (op_eql rfl rfl) (TL.opP rfl (op_pickF rfl rfl) (TL.nil (TQ.then ?_))))))
      refine TC.sp rfl (fun c16 => ?_) (fun c16 => ?_)
      ·refine TC.region (TL.opP rfl (op_move rfl) ?_)
       refine TL.opX rfl (OpX.callX en_85 rfl (xfail_x l _ _ j4 gz1 hxl.cons.cons.cons.cons.cons hln e3 90)) ?_; rintro _ _ ⟨rfl, rfl⟩
       refine TL.nil (TQ.then (TC.seq (TC.region (TL.opV rfl (op_loadS tst_sealskinref12_Part rfl m1 rfl) (TL.hp (fun _ h => h.pick3) ?_)))))
       refine TL.opX0 (OpX.storeS tst_sealskinref12_Part rfl rfl rfl rfl rfl (nc_one (by first | rfl | assumption | exact Pc.hs _) (by first | rfl | assumption | exact Pc.hk _))) ?_; rintro _ _ rfl
       refine TL.nil (TQ.then (TC.ret ?_))
       refine retc tst_sealskinref12_Part rfl rfl m0 rfl (fun w' hp => ?_)
       exact ⟨_, _, rfl, ⟨rz1, j4, gz1, _, ⟨6, false, nilS, _, lo, hi, lz, 0, rfl, rfl⟩, rfl, hci.bad hj4 (by unfold isRepB; omega) hR1.sub, rfl⟩, Hp.tail (hp.drop4.drop2.tail.pick2.pick2)⟩
      ·refine TC.skip (TQ.then (TC.seq (TC.region (TL.opV rfl (op_loadS tst_sealskinref12_Part rfl m1 rfl) (TL.hp (fun _ h => h.pick3) ?_)))))
       refine TL.opX0 (OpX.storeS tst_sealskinref12_Part rfl rfl rfl rfl rfl (nc_one (by first | rfl | assumption | exact Pc.hs _) (by first | rfl | assumption | exact Pc.hk _))) ?_; rintro _ _ rfl
       refine TL.nil (TQ.then (TC.ret ?_))
       refine retc tst_sealskinref12_Part rfl rfl m0 rfl (fun w' hp => ?_)
       exact ⟨_, _, rfl, ⟨_, j4, gz1, e3, ⟨6, false, nilS, _, lo, hi, lz, 0, rfl, rfl⟩, rfl, hci.rep hj4 hlz (by unfold isRepB; omega) hR1.sub hPN, rfl⟩, fz_row (hp.drop4.drop2.tail.pick2.pick2)⟩

end Go.SK
