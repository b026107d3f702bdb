/- Layer 12: memory that is done with and stays; patterns as they stand in it. -/
import Derived.Test.YtpomdenbgdgbhaaDoorNE
import Derived.Test.YtpomdenbgdgbhaaDoorNC
import Derived.Test.YtpomdenbgdgbhaaDoorML
import Derived.Test.YtpomdenbgdgbhaaDoorK8
import Derived.Test.YtpomdenbgdgbhaaDoorSh
import Derived.Laws.Bits64
set_option linter.unusedVariables false
set_option linter.unusedSimpArgs false
set_option maxRecDepth 100000
namespace Go.SK
open Go Go.RowKit Go.Proofs
section
variable {P : Program} {n : Nat} {l : FrL} {dst : Option Tmp} {ty : TypeId} {pos : String} {af : Array Edge} {gd : Option (Nat × Bool)}
theorem op_eqPtr {x : Operand} {t t' : TypeId} {A : Option Addr} {b : Bool} (hx : evO l x = some (.pointer A)) (hq : ∀ w : World, (binOp .eql t (.pointer A) (.pointer none)).run P w = .ok (.bool b) w) :
    OpP P n l ⟨dst, .binOp .eql t x (.const (.pointer none)) t', ty, pos, af, gd⟩ (.bool b) := fun q w ha => by
  have hg : (eqGuard .eql t x (.const (.pointer none)) (.pointer A) (.pointer none)).run P w = .ok () w := by simp [eqGuard]
  have hc : q.eval (.const (.pointer none)) = .pointer none := rfl
  simp only [execOp, ha.eval hx, hc, Sem.run_bind, hg, Result.andThen_ok, hq w, Sem.run_pure]
end
abbrev nv (n : Nat) : Value := .int .i64 (n : Int)
theorem ints_cut {L : List Res} {v : Value} {m : Nat} {ns : List Int} {kd : IntKind} (h : Rdb L v 1 m (ns.map (Value.int kd))) (lo hi : Nat) (h1 : lo ≤ hi) (h2 : hi ≤ m) : Rdb L (Value.cut v lo hi 1) 1 (hi - lo) (((ns.drop lo).take (hi - lo)).map (Value.int kd)) := by
  have := h.cut lo hi h1 h2
  rw [Nat.mul_one, Nat.mul_one, ← List.map_drop, ← List.map_take] at this
  exact this
/-! ### What stays as it is -/
def fz (rs : List Res) : Res :=
  .ro (fun g => ∃ r ∈ rs, r.keys g) (fun w => ∀ r ∈ rs, r.holds w)
    (fun w w' h F r hr => r.stable w w' (fun g hg => h g ⟨r, hr, hg⟩) (F r hr))
    (fun w F g ⟨r, hr, hg⟩ => r.bound w (F r hr) g hg)
section
variable {S : Nat → Prop} {w0 w : World} {L : List Res} {rs rs' : List Res}
/-- Two of the heap's entries as one that is only read. -/
theorem Hp.one {r1 r2 r : Res} (h : Hp S w0 w (r1 :: r2 :: L)) (hr : r1.holds w → r2.holds w → r.holds w) (hw : ¬ r.rw) (hk : ∀ g, r.keys g → r1.keys g ∨ r2.keys g) : Hp S w0 w (r :: L) := by
  have n1 := List.pairwise_cons.1 h.nd
  have n2 := List.pairwise_cons.1 n1.2
  refine ⟨h.kp, fun s hs => ?_, fun s hs hw' => ?_, .cons (fun s hs hw' g hg hg' => ?_) n2.2⟩
  · rcases List.mem_cons.1 hs with rfl | hs
    · exact hr (h.at_ _ (.head _)) (h.at_ _ (.tail _ (.head _)))
    · exact h.at_ s (.tail _ (.tail _ hs))
  · rcases List.mem_cons.1 hs with rfl | hs
    · exact absurd hw' hw
    · exact h.own s (.tail _ (.tail _ hs)) hw'
  · have hsw : s.rw := hw'.resolve_left hw
    rcases hk g hg with h1 | h1
    · exact n1.1 s (.tail _ hs) (.inr hsw) g h1 hg'
    · exact n2.1 s hs (.inr hsw) g h1 hg'
theorem fz_nil (h : Hp S w0 w L) : Hp S w0 w (fz [] :: L) :=
  h.new (Kp.refl _ _) (fun _ hr => by cases hr) (fun _ ⟨_, hr, _⟩ => by cases hr)
theorem fz_blk {g : Nat} {o : Obj} (h : Hp S w0 w (.blk g o :: fz rs :: L)) : Hp S w0 w (fz (.blk g o :: rs) :: L) :=
  h.one (fun a b r hr => by
    rcases List.mem_cons.1 hr with rfl | hr
    · exact a
    · exact b r hr) (fun x => x) (fun k ⟨r, hr, hk⟩ => by
    rcases List.mem_cons.1 hr with rfl | hr
    · exact .inl hk
    · exact .inr ⟨r, hr, hk⟩)
theorem fz_row {v : Value} {e k m : Nat} {xs : List Value} (h : Hp S w0 w (.row v e k m xs :: fz rs :: L)) : Hp S w0 w (fz (.rd v k m xs :: rs) :: L) :=
  (row_rd h).one (fun a b r hr => by
    rcases List.mem_cons.1 hr with rfl | hr
    · exact a
    · exact b r hr) (fun x => x) (fun k ⟨r, hr, hk⟩ => by
    rcases List.mem_cons.1 hr with rfl | hr
    · exact .inl hk
    · exact .inr ⟨r, hr, hk⟩)
theorem fz_rd {v : Value} {k m : Nat} {xs : List Value} (h : Hp S w0 w (.rd v k m xs :: fz rs :: L)) : Hp S w0 w (fz (.rd v k m xs :: rs) :: L) :=
  h.one (fun a b r hr => by
    rcases List.mem_cons.1 hr with rfl | hr
    · exact a
    · exact b r hr) (fun x => x) (fun k ⟨r, hr, hk⟩ => by
    rcases List.mem_cons.1 hr with rfl | hr
    · exact .inl hk
    · exact .inr ⟨r, hr, hk⟩)
/-- A slice of nothing stands anywhere. -/
theorem fz_none (k : Nat) (h : Hp S w0 w (fz rs :: L)) : Hp S w0 w (fz (.rd (.slice none 0 0) k 0 [] :: rs) :: L) := fz_rd (rd_nil 0 k h)
theorem rdb_fz {v : Value} {k m : Nat} {xs : List Value} (hz : fz rs ∈ L) (h : Res.rd v k m xs ∈ rs) : Rdb L v k m xs := fun S w0 w H => (H.at_ _ hz : ∀ r ∈ rs, r.holds w) _ h
/-- The heap has a block, whatever else. -/
def Bkb (L : List Res) (g : Nat) (o : Obj) : Prop := ∀ (S : Nat → Prop) (w0 w : World), Hp S w0 w L → w.heap[g]? = some o
theorem Bkb.cons {r : Res} {g : Nat} {o : Obj} (h : Bkb L g o) : Bkb (r :: L) g o := fun S w0 w H => h S w0 w H.tail
theorem bkb_fz {g : Nat} {o : Obj} (hz : fz rs ∈ L) (h : Res.blk g o ∈ rs) : Bkb L g o := fun S w0 w H => (H.at_ _ hz : ∀ r ∈ rs, r.holds w) _ h
end
section
variable {P : Program} {n : Nat} {l : FrL} {S : Nat → Prop} {w0 : World} {L : List Res} {dst : Option Tmp} {ty : TypeId} {pos : String} {af : Array Edge} {gd : Option (Nat × Bool)} {x y c : Operand} {v u : Value}
theorem op_loadB {t g i : Nat} {cs : Array Value} {T : TypeId} {f : Nat × Nat} (ht : TScal P t) (hx : evO l x = some (.pointer (some ⟨g, i, none⟩))) (hm : Bkb L g (.cells cs T f)) (hi : cs[i]? = some v) : OpV P n l S w0 L ⟨dst, .load t x, ty, pos, af, gd⟩ v := fun a w ha hp => by
  have hh : w.heap[g]? = some (.cells cs T f) := hm _ _ _ hp
  have hc : w.cell? ⟨g, i, none⟩ = some v := by simp [World.cell?, hh, hi]
  simp [execOp, ha.eval hx, Instr.loadAt, Instr.sureAddr, loadVar, ht.agg w, load, Sem.run, hc]
end
/-! ### A test the other way around -/
section
variable {P : Program} {Q : Exit → Act → World → Prop} {n : Nat} {l l' : FrL} {S : Nat → Prop} {w0 : World} {L L' LS : List Res} {ops : Array Oper} {rest : List Oper} {ord : Od} {t : Nat}
theorem TL.splitN {p : Prop} [Decidable p] (ht : ¬ p → TL P ops Q rest n ((t, .bool true) :: l) S w0 L) (hf : p → TL P ops Q rest n ((t, .bool false) :: l) S w0 L) : TL P ops Q rest n ((t, .bool (!decide p)) :: l) S w0 L := by
  by_cases h : p
  · rw [decide_eq_true h]; exact hf h
  · rw [decide_eq_false h]; exact ht h
theorem TR.splitN {p : Prop} [Decidable p] (ht : ¬ p → TR P ops Q LS ord n ((t, .bool true) :: l) S w0 L) (hf : p → TR P ops Q LS ord n ((t, .bool false) :: l) S w0 L) : TR P ops Q LS ord n ((t, .bool (!decide p)) :: l) S w0 L := by
  by_cases h : p
  · rw [decide_eq_true h]; exact hf h
  · rw [decide_eq_false h]; exact ht h
theorem TC.condN {t : Nat} {x y : Code} {p : Prop} [Decidable p] (hc : evO l (.tmp t) = some (.bool (!decide p))) (ht : ¬ p → TC P x Q n ((t, .bool true) :: l) S w0 L) (hf : p → TC P y Q n ((t, .bool false) :: l) S w0 L) : TC P (.cond (.tmp t) x y) Q n l S w0 L := by
  refine TC.condD (p := ¬ p) (by rw [hc]; by_cases h : p <;> simp [h]) ht (fun h => hf (Classical.not_not.1 h))
end
/-! ### Patterns in memory -/
def spC : List (Int × Int) → List Value
  | [] => []
  | a :: r => .int .i32 a.1 :: .int .i32 a.2 :: spC r
theorem spC_len : ∀ s, (spC s).length = s.length * 2
  | [] => rfl
  | a :: r => by simp [spC, spC_len r]; omega
theorem spC_append : ∀ a b, spC (a ++ b) = spC a ++ spC b
  | [], b => rfl
  | x :: r, b => by simp [spC, spC_append r]
theorem spC_one : ∀ (s : List (Int × Int)), ∀ u ∈ spC s, u.oneCell' = true
  | [], u, h => by cases h
  | a :: r, u, h => by
    rcases List.mem_cons.1 h with rfl | h
    · rfl
    · rcases List.mem_cons.1 h with rfl | h
      · rfl
      · exact spC_one r u h
abbrev nilS : Value := .slice none 0 0
abbrev ptrV (g : Nat) : Value := .pointer (some ⟨g, 0, none⟩)
abbrev nodeC (k : Int) (neg : Bool) (sv kv : Value) (lo hi : Int) (lz : Bool) (num : Int) : List Value := [.int .i64 k, .bool neg, sv, kv, .int .i64 lo, .int .i64 hi, .bool lz, .int .i64 num]
abbrev ndBlk (g : Nat) (cs : List Value) : Res := .blk g (.cells cs.toArray 198 (0, 0))
mutual
/-- A part of a pattern as the program has it. -/
def PNd (rs : List Res) : Nd → Value → Prop
  | .cls neg sp, v => ∃ g sv, v = ptrV g ∧ ndBlk g (nodeC 1 neg sv nilS 0 0 false 0) ∈ rs ∧ Res.rd sv 2 sp.length (spC sp) ∈ rs
  | .bol, v => ∃ g, v = ptrV g ∧ ndBlk g (nodeC 2 false nilS nilS 0 0 false 0) ∈ rs
  | .eol, v => ∃ g, v = ptrV g ∧ ndBlk g (nodeC 3 false nilS nilS 0 0 false 0) ∈ rs
  | .seq k, v => ∃ g kv vs, v = ptrV g ∧ ndBlk g (nodeC 4 false nilS kv 0 0 false 0) ∈ rs ∧ Res.rd kv 1 vs.length vs ∈ rs ∧ PNds rs k vs
  | .alt k, v => (k.length = 1 ∧ PNds rs k [v]) ∨ (k.length ≠ 1 ∧ ∃ g kv vs, v = ptrV g ∧ ndBlk g (nodeC 5 false nilS kv 0 0 false 0) ∈ rs ∧ Res.rd kv 1 vs.length vs ∈ rs ∧ PNds rs k vs)
  | .rep k lo hi lz, v => ∃ g kv u, v = ptrV g ∧ ndBlk g (nodeC 6 false nilS kv lo hi lz 0) ∈ rs ∧ Res.rd kv 1 1 [u] ∈ rs ∧ PNd rs k u
  | .grp k num, v => ∃ g kv u, v = ptrV g ∧ ndBlk g (nodeC 7 false nilS kv 0 0 false num) ∈ rs ∧ Res.rd kv 1 1 [u] ∈ rs ∧ PNd rs k u
def PNds (rs : List Res) : List Nd → List Value → Prop
  | [], vs => vs = []
  | t :: k, vs => ∃ v r, vs = v :: r ∧ PNd rs t v ∧ PNds rs k r
end
mutual
theorem PNd.mono {rs rs' : List Res} (h : rs ⊆ rs') : ∀ (t : Nd) (v : Value), PNd rs t v → PNd rs' t v
  | .cls _ _, v, hv => by unfold PNd at hv ⊢; obtain ⟨g, sv, a, b, c⟩ := hv; exact ⟨g, sv, a, h b, h c⟩
  | .bol, v, hv => by unfold PNd at hv ⊢; obtain ⟨g, a, b⟩ := hv; exact ⟨g, a, h b⟩
  | .eol, v, hv => by unfold PNd at hv ⊢; obtain ⟨g, a, b⟩ := hv; exact ⟨g, a, h b⟩
  | .seq k, v, hv => by unfold PNd at hv ⊢; obtain ⟨g, kv, vs, a, b, c, d⟩ := hv; exact ⟨g, kv, vs, a, h b, h c, PNds.mono h k vs d⟩
  | .alt k, v, hv => by
    unfold PNd at hv ⊢
    rcases hv with ⟨a, b⟩ | ⟨a, g, kv, vs, b, c, d, e⟩
    · exact .inl ⟨a, PNds.mono h k _ b⟩
    · exact .inr ⟨a, g, kv, vs, b, h c, h d, PNds.mono h k vs e⟩
  | .rep k _ _ _, v, hv => by unfold PNd at hv ⊢; obtain ⟨g, kv, u, a, b, c, d⟩ := hv; exact ⟨g, kv, u, a, h b, h c, PNd.mono h k u d⟩
  | .grp k _, v, hv => by unfold PNd at hv ⊢; obtain ⟨g, kv, u, a, b, c, d⟩ := hv; exact ⟨g, kv, u, a, h b, h c, PNd.mono h k u d⟩
theorem PNds.mono {rs rs' : List Res} (h : rs ⊆ rs') : ∀ (k : List Nd) (vs : List Value), PNds rs k vs → PNds rs' k vs
  | [], vs, hv => by unfold PNds at hv ⊢; exact hv
  | t :: k, vs, hv => by unfold PNds at hv ⊢; obtain ⟨v, r, a, b, c⟩ := hv; exact ⟨v, r, a, PNd.mono h t v b, PNds.mono h k r c⟩
end
theorem PNds.len {rs : List Res} : ∀ {k : List Nd} {vs : List Value}, PNds rs k vs → vs.length = k.length
  | [], vs, h => by unfold PNds at h; subst h; rfl
  | t :: k, vs, h => by unfold PNds at h; obtain ⟨v, r, rfl, _, b⟩ := h; simp [PNds.len b]
theorem PNds.snoc {rs : List Res} {t : Nd} {v : Value} (ht : PNd rs t v) : ∀ {k : List Nd} {vs : List Value}, PNds rs k vs → PNds rs (k ++ [t]) (vs ++ [v])
  | [], vs, h => by unfold PNds at h; subst h; unfold PNds; exact ⟨v, [], rfl, ht, by unfold PNds; rfl⟩
  | s :: k, vs, h => by
    unfold PNds at h
    obtain ⟨u, r, rfl, a, b⟩ := h
    show PNds rs (s :: (k ++ [t])) (u :: (r ++ [v]))
    unfold PNds
    exact ⟨u, _, rfl, a, PNds.snoc ht b⟩
/-- What a reading function of the program gives. -/
structure PRes (rs rs' : List Res) (r : PR Nd) (i' g' : Nat) (v : Value) (e : Int) : Prop where
  sub : rs ⊆ rs'
  one : v.oneCell' = true
  is_ : match r with
    | .ok t j g => e = 0 ∧ i' = j ∧ g' = g ∧ PNd rs' t v
    | .err e' j => v = .pointer none ∧ e = e' ∧ e' ≠ 0 ∧ i' = j
section
variable {rs rs' rs2 : List Res} {r : PR Nd} {i g i' g' : Nat} {v : Value} {e : Int}
theorem PRes.err (h : rs ⊆ rs') (he : e ≠ 0) : PRes rs rs' (.err e i) i g (.pointer none) e := ⟨h, rfl, rfl, rfl, he, rfl⟩
theorem PRes.bad (h : PRes rs rs' r i' g' v e) (he : e ≠ 0) : r = .err e i' ∧ v = .pointer none := by
  obtain ⟨h1, h2, h3⟩ := h
  cases r with
  | ok t j g => exact absurd h3.1 he
  | err e' j => obtain ⟨a, rfl, b, rfl⟩ := h3; exact ⟨rfl, a⟩
theorem PRes.good (h : PRes rs rs' r i' g' v e) (he : ¬ e ≠ 0) : ∃ t, r = .ok t i' g' ∧ PNd rs' t v := by
  obtain ⟨h1, h2, h3⟩ := h
  cases r with
  | ok t j g => obtain ⟨a, rfl, rfl, b⟩ := h3; exact ⟨t, rfl, b⟩
  | err e' j => obtain ⟨a, rfl, b, c⟩ := h3; exact absurd b he
theorem PRes.cls {gb : Nat} {sv : Value} {neg : Bool} {sp : List (Int × Int)} (h : rs ⊆ rs') : PRes rs (ndBlk gb (nodeC 1 neg sv nilS 0 0 false 0) :: .rd sv 2 sp.length (spC sp) :: rs') (.ok (.cls neg sp) i g) i g (ptrV gb) 0 :=
  ⟨fun x hx => .tail _ (.tail _ (h hx)), rfl, rfl, rfl, rfl, by unfold PNd; exact ⟨gb, sv, rfl, .head _, .tail _ (.head _)⟩⟩
theorem PRes.bol {gb : Nat} : PRes rs (ndBlk gb (nodeC 2 false nilS nilS 0 0 false 0) :: rs) (.ok .bol i g) i g (ptrV gb) 0 := ⟨fun x hx => .tail _ hx, rfl, rfl, rfl, rfl, by unfold PNd; exact ⟨gb, rfl, .head _⟩⟩
theorem PRes.eol {gb : Nat} : PRes rs (ndBlk gb (nodeC 3 false nilS nilS 0 0 false 0) :: rs) (.ok .eol i g) i g (ptrV gb) 0 := ⟨fun x hx => .tail _ hx, rfl, rfl, rfl, rfl, by unfold PNd; exact ⟨gb, rfl, .head _⟩⟩
theorem PRes.seq {gb : Nat} {kv : Value} {k : List Nd} {vs : List Value} (h : rs ⊆ rs') (hk : PNds rs' k vs) : PRes rs (ndBlk gb (nodeC 4 false nilS kv 0 0 false 0) :: .rd kv 1 vs.length vs :: rs') (.ok (.seq k) i g) i g (ptrV gb) 0 :=
  ⟨fun x hx => .tail _ (.tail _ (h hx)), rfl, rfl, rfl, rfl, by unfold PNd; exact ⟨gb, kv, vs, rfl, .head _, .tail _ (.head _), hk.mono (fun x hx => .tail _ (.tail _ hx))⟩⟩
theorem PRes.alt {gb : Nat} {kv : Value} {k : List Nd} {vs : List Value} (h : rs ⊆ rs') (hk : PNds rs' k vs) (hl : k.length ≠ 1) : PRes rs (ndBlk gb (nodeC 5 false nilS kv 0 0 false 0) :: .rd kv 1 vs.length vs :: rs') (.ok (.alt k) i g) i g (ptrV gb) 0 :=
  ⟨fun x hx => .tail _ (.tail _ (h hx)), rfl, rfl, rfl, rfl, by unfold PNd; exact .inr ⟨hl, gb, kv, vs, rfl, .head _, .tail _ (.head _), hk.mono (fun x hx => .tail _ (.tail _ hx))⟩⟩
theorem PRes.alt1 {t : Nd} (h : rs ⊆ rs') (ho : v.oneCell' = true) (ht : PNd rs' t v) : PRes rs rs' (.ok (.alt [t]) i g) i g v 0 :=
  ⟨h, ho, rfl, rfl, rfl, by unfold PNd; exact .inl ⟨rfl, by unfold PNds; exact ⟨v, [], rfl, ht, by unfold PNds; rfl⟩⟩⟩
theorem PRes.rep {gb : Nat} {kv u : Value} {k : Nd} {lo hi : Int} {lz : Bool} (h : rs ⊆ rs') (hk : PNd rs' k u) : PRes rs (ndBlk gb (nodeC 6 false nilS kv lo hi lz 0) :: .rd kv 1 1 [u] :: rs') (.ok (.rep k lo hi lz) i g) i g (ptrV gb) 0 :=
  ⟨fun x hx => .tail _ (.tail _ (h hx)), rfl, rfl, rfl, rfl, by unfold PNd; exact ⟨gb, kv, u, rfl, .head _, .tail _ (.head _), hk.mono (fun x hx => .tail _ (.tail _ hx))⟩⟩
theorem PRes.grp {gb num : Nat} {kv u : Value} {k : Nd} (h : rs ⊆ rs') (hk : PNd rs' k u) : PRes rs (ndBlk gb (nodeC 7 false nilS kv 0 0 false num) :: .rd kv 1 1 [u] :: rs') (.ok (.grp k num) i g) i g (ptrV gb) 0 :=
  ⟨fun x hx => .tail _ (.tail _ (h hx)), rfl, rfl, rfl, rfl, by unfold PNd; exact ⟨gb, kv, u, rfl, .head _, .tail _ (.head _), hk.mono (fun x hx => .tail _ (.tail _ hx))⟩⟩
end
theorem row_lenS {S : Nat → Prop} {w0 w : World} {L : List Res} {v : Value} {e m : Nat} {s : List (Int × Int)} (h : Hp S w0 w (.row v e 2 m (spC s) :: L)) : Hp S w0 w (.row v e 2 s.length (spC s) :: L) := by
  have h1 : w.ownsRow 0 e 2 v m (spC s) := h.at_ _ (.head _)
  have h2 : s.length = m := by have := h1.1; rw [spC_len] at this; omega
  rw [h2]; exact h
/-- The sets behind a backslash, as parts. -/
def escN (r : PR (List (Int × Int))) (g : Nat) : PR Nd := match r with
  | .err e j => .err e j
  | .ok s j _ => .ok (.cls false s) j g
end Go.SK
