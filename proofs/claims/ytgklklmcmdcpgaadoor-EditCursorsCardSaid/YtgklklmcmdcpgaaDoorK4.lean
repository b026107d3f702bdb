/- Small words for the printed walks: places in the heap's list, splits, joins, elements of several cells. -/
import Derived.Test.YtgklklmcmdcpgaaDoorK3
set_option linter.unusedVariables false
set_option linter.unusedSimpArgs false
namespace Go.SK
open Go Go.RowKit
theorem m0 {r : Res} {L : List Res} : r ∈ r :: L := .head _
theorem rd0 {L : List Res} {v : Value} {sz n : Nat} {xs : List Value} : Rdb (Res.rd v sz n xs :: L) v sz n xs := rdb_rd m0
theorem rw0 {L : List Res} {v : Value} {e : TypeId} {sz n : Nat} {xs : List Value} : Rdb (Res.row v e sz n xs :: L) v sz n xs := rdb_row m0
theorem wn0 {L : List Res} {v : Value} {e : TypeId} {sz n : Nat} {xs : List Value} : Rdb (Res.win v e sz n xs :: L) v sz n xs := rdb_win m0
theorem m1 {r0 : Res} {r : Res} {L : List Res} : r ∈ r0 :: r :: L := .tail _ (.head _)
theorem rd1 {r0 : Res} {L : List Res} {v : Value} {sz n : Nat} {xs : List Value} : Rdb (r0 :: Res.rd v sz n xs :: L) v sz n xs := rdb_rd m1
theorem rw1 {r0 : Res} {L : List Res} {v : Value} {e : TypeId} {sz n : Nat} {xs : List Value} : Rdb (r0 :: Res.row v e sz n xs :: L) v sz n xs := rdb_row m1
theorem wn1 {r0 : Res} {L : List Res} {v : Value} {e : TypeId} {sz n : Nat} {xs : List Value} : Rdb (r0 :: Res.win v e sz n xs :: L) v sz n xs := rdb_win m1
theorem m2 {r0 r1 : Res} {r : Res} {L : List Res} : r ∈ r0 :: r1 :: r :: L := .tail _ (.tail _ (.head _))
theorem rd2 {r0 r1 : Res} {L : List Res} {v : Value} {sz n : Nat} {xs : List Value} : Rdb (r0 :: r1 :: Res.rd v sz n xs :: L) v sz n xs := rdb_rd m2
theorem rw2 {r0 r1 : Res} {L : List Res} {v : Value} {e : TypeId} {sz n : Nat} {xs : List Value} : Rdb (r0 :: r1 :: Res.row v e sz n xs :: L) v sz n xs := rdb_row m2
theorem wn2 {r0 r1 : Res} {L : List Res} {v : Value} {e : TypeId} {sz n : Nat} {xs : List Value} : Rdb (r0 :: r1 :: Res.win v e sz n xs :: L) v sz n xs := rdb_win m2
theorem m3 {r0 r1 r2 : Res} {r : Res} {L : List Res} : r ∈ r0 :: r1 :: r2 :: r :: L := .tail _ (.tail _ (.tail _ (.head _)))
theorem rd3 {r0 r1 r2 : Res} {L : List Res} {v : Value} {sz n : Nat} {xs : List Value} : Rdb (r0 :: r1 :: r2 :: Res.rd v sz n xs :: L) v sz n xs := rdb_rd m3
theorem rw3 {r0 r1 r2 : Res} {L : List Res} {v : Value} {e : TypeId} {sz n : Nat} {xs : List Value} : Rdb (r0 :: r1 :: r2 :: Res.row v e sz n xs :: L) v sz n xs := rdb_row m3
theorem wn3 {r0 r1 r2 : Res} {L : List Res} {v : Value} {e : TypeId} {sz n : Nat} {xs : List Value} : Rdb (r0 :: r1 :: r2 :: Res.win v e sz n xs :: L) v sz n xs := rdb_win m3
theorem m4 {r0 r1 r2 r3 : Res} {r : Res} {L : List Res} : r ∈ r0 :: r1 :: r2 :: r3 :: r :: L := .tail _ (.tail _ (.tail _ (.tail _ (.head _))))
theorem rd4 {r0 r1 r2 r3 : Res} {L : List Res} {v : Value} {sz n : Nat} {xs : List Value} : Rdb (r0 :: r1 :: r2 :: r3 :: Res.rd v sz n xs :: L) v sz n xs := rdb_rd m4
theorem rw4 {r0 r1 r2 r3 : Res} {L : List Res} {v : Value} {e : TypeId} {sz n : Nat} {xs : List Value} : Rdb (r0 :: r1 :: r2 :: r3 :: Res.row v e sz n xs :: L) v sz n xs := rdb_row m4
theorem wn4 {r0 r1 r2 r3 : Res} {L : List Res} {v : Value} {e : TypeId} {sz n : Nat} {xs : List Value} : Rdb (r0 :: r1 :: r2 :: r3 :: Res.win v e sz n xs :: L) v sz n xs := rdb_win m4
theorem m5 {r0 r1 r2 r3 r4 : Res} {r : Res} {L : List Res} : r ∈ r0 :: r1 :: r2 :: r3 :: r4 :: r :: L := .tail _ (.tail _ (.tail _ (.tail _ (.tail _ (.head _)))))
theorem rd5 {r0 r1 r2 r3 r4 : Res} {L : List Res} {v : Value} {sz n : Nat} {xs : List Value} : Rdb (r0 :: r1 :: r2 :: r3 :: r4 :: Res.rd v sz n xs :: L) v sz n xs := rdb_rd m5
theorem rw5 {r0 r1 r2 r3 r4 : Res} {L : List Res} {v : Value} {e : TypeId} {sz n : Nat} {xs : List Value} : Rdb (r0 :: r1 :: r2 :: r3 :: r4 :: Res.row v e sz n xs :: L) v sz n xs := rdb_row m5
theorem wn5 {r0 r1 r2 r3 r4 : Res} {L : List Res} {v : Value} {e : TypeId} {sz n : Nat} {xs : List Value} : Rdb (r0 :: r1 :: r2 :: r3 :: r4 :: Res.win v e sz n xs :: L) v sz n xs := rdb_win m5
theorem m6 {r0 r1 r2 r3 r4 r5 : Res} {r : Res} {L : List Res} : r ∈ r0 :: r1 :: r2 :: r3 :: r4 :: r5 :: r :: L := .tail _ (.tail _ (.tail _ (.tail _ (.tail _ (.tail _ (.head _))))))
theorem rd6 {r0 r1 r2 r3 r4 r5 : Res} {L : List Res} {v : Value} {sz n : Nat} {xs : List Value} : Rdb (r0 :: r1 :: r2 :: r3 :: r4 :: r5 :: Res.rd v sz n xs :: L) v sz n xs := rdb_rd m6
theorem rw6 {r0 r1 r2 r3 r4 r5 : Res} {L : List Res} {v : Value} {e : TypeId} {sz n : Nat} {xs : List Value} : Rdb (r0 :: r1 :: r2 :: r3 :: r4 :: r5 :: Res.row v e sz n xs :: L) v sz n xs := rdb_row m6
theorem wn6 {r0 r1 r2 r3 r4 r5 : Res} {L : List Res} {v : Value} {e : TypeId} {sz n : Nat} {xs : List Value} : Rdb (r0 :: r1 :: r2 :: r3 :: r4 :: r5 :: Res.win v e sz n xs :: L) v sz n xs := rdb_win m6
theorem m7 {r0 r1 r2 r3 r4 r5 r6 : Res} {r : Res} {L : List Res} : r ∈ r0 :: r1 :: r2 :: r3 :: r4 :: r5 :: r6 :: r :: L := .tail _ (.tail _ (.tail _ (.tail _ (.tail _ (.tail _ (.tail _ (.head _)))))))
theorem rd7 {r0 r1 r2 r3 r4 r5 r6 : Res} {L : List Res} {v : Value} {sz n : Nat} {xs : List Value} : Rdb (r0 :: r1 :: r2 :: r3 :: r4 :: r5 :: r6 :: Res.rd v sz n xs :: L) v sz n xs := rdb_rd m7
theorem rw7 {r0 r1 r2 r3 r4 r5 r6 : Res} {L : List Res} {v : Value} {e : TypeId} {sz n : Nat} {xs : List Value} : Rdb (r0 :: r1 :: r2 :: r3 :: r4 :: r5 :: r6 :: Res.row v e sz n xs :: L) v sz n xs := rdb_row m7
theorem wn7 {r0 r1 r2 r3 r4 r5 r6 : Res} {L : List Res} {v : Value} {e : TypeId} {sz n : Nat} {xs : List Value} : Rdb (r0 :: r1 :: r2 :: r3 :: r4 :: r5 :: r6 :: Res.win v e sz n xs :: L) v sz n xs := rdb_win m7
theorem m8 {r0 r1 r2 r3 r4 r5 r6 r7 : Res} {r : Res} {L : List Res} : r ∈ r0 :: r1 :: r2 :: r3 :: r4 :: r5 :: r6 :: r7 :: r :: L := .tail _ (.tail _ (.tail _ (.tail _ (.tail _ (.tail _ (.tail _ (.tail _ (.head _))))))))
theorem rd8 {r0 r1 r2 r3 r4 r5 r6 r7 : Res} {L : List Res} {v : Value} {sz n : Nat} {xs : List Value} : Rdb (r0 :: r1 :: r2 :: r3 :: r4 :: r5 :: r6 :: r7 :: Res.rd v sz n xs :: L) v sz n xs := rdb_rd m8
theorem rw8 {r0 r1 r2 r3 r4 r5 r6 r7 : Res} {L : List Res} {v : Value} {e : TypeId} {sz n : Nat} {xs : List Value} : Rdb (r0 :: r1 :: r2 :: r3 :: r4 :: r5 :: r6 :: r7 :: Res.row v e sz n xs :: L) v sz n xs := rdb_row m8
theorem wn8 {r0 r1 r2 r3 r4 r5 r6 r7 : Res} {L : List Res} {v : Value} {e : TypeId} {sz n : Nat} {xs : List Value} : Rdb (r0 :: r1 :: r2 :: r3 :: r4 :: r5 :: r6 :: r7 :: Res.win v e sz n xs :: L) v sz n xs := rdb_win m8
section
variable {P : Program} {Q : Exit → Act → World → Prop} {n : Nat} {l l' : FrL} {S : Nat → Prop} {w0 : World} {L L' LS : List Res} {ops : Array Oper} {rest : List Oper} {ord : Od} {t : Nat}
theorem TL.splitD {p : Prop} [Decidable p] (ht : p → TL P ops Q rest n ((t, .bool true) :: l) S w0 L) (hf : ¬ p → TL P ops Q rest n ((t, .bool false) :: l) S w0 L) : TL P ops Q rest n ((t, .bool (decide p)) :: l) S w0 L := by
  by_cases h : p
  · rw [decide_eq_true h]; exact ht h
  · rw [decide_eq_false h]; exact hf h
theorem TL.splitB {b : Bool} (ht : b = true → TL P ops Q rest n ((t, .bool true) :: l) S w0 L) (hf : b = false → TL P ops Q rest n ((t, .bool false) :: l) S w0 L) : TL P ops Q rest n ((t, .bool b) :: l) S w0 L := by
  cases b
  · exact hf rfl
  · exact ht rfl
theorem TR.splitD {p : Prop} [Decidable p] (ht : p → TR P ops Q LS ord n ((t, .bool true) :: l) S w0 L) (hf : ¬ p → TR P ops Q LS ord n ((t, .bool false) :: l) S w0 L) : TR P ops Q LS ord n ((t, .bool (decide p)) :: l) S w0 L := by
  by_cases h : p
  · rw [decide_eq_true h]; exact ht h
  · rw [decide_eq_false h]; exact hf h
theorem TR.splitB {b : Bool} (ht : b = true → TR P ops Q LS ord n ((t, .bool true) :: l) S w0 L) (hf : b = false → TR P ops Q LS ord n ((t, .bool false) :: l) S w0 L) : TR P ops Q LS ord n ((t, .bool b) :: l) S w0 L := by
  cases b
  · exact hf rfl
  · exact ht rfl
theorem TC.condB {t : Nat} {x y : Code} {b : Bool} (hc : evO l (.tmp t) = some (.bool b)) (ht : b = true → TC P x Q n ((t, .bool true) :: l) S w0 L) (hf : b = false → TC P y Q n ((t, .bool false) :: l) S w0 L) : TC P (.cond (.tmp t) x y) Q n l S w0 L := by
  have e : decide (b = true) = b := by cases b <;> rfl
  refine TC.condD (p := b = true) (by rw [e]; exact hc) ht (fun h => hf (by simpa using h))

/-- Where ways meet: what is known then. -/
def JoinEnd {ι : Type} (f : ι → FrL) (H : ι → List Res) (I : ι → Prop) (n : Nat) (S : Nat → Prop) (w0 : World) (Q : Exit → Act → World → Prop) : Exit → Act → World → Prop :=
  Exit.then (fun a w => ∃ j, I j ∧ Has n (f j) a ∧ Hp S w0 w (H j)) Q
theorem TC.join {ι : Type} (f : ι → FrL) (H : ι → List Res) (I : ι → Prop) {x y : Code} (hx : TC P x (JoinEnd f H I n S w0 Q) n l S w0 L) (hy : ∀ j, I j → TC P y Q n (f j) S w0 (H j)) : TC P (x.seq y) Q n l S w0 L := by
  intro a w ha hp
  refine wp_seq (Code.wp_mono (fun e a w he => ?_) (hx a w ha hp))
  cases e with
  | normal => obtain ⟨j, h1, h2, h3⟩ := he; exact hy j h1 a w h2 h3
  | _ => exact he
theorem TQ.join {ι : Type} {f : ι → FrL} {H : ι → List Res} {I : ι → Prop} (j : ι) (hj : I j) (hl : AllIn l (f j)) (hL : ∀ w, Hp S w0 w L → Hp S w0 w (H j)) : TQ (JoinEnd f H I n S w0 Q) .normal n l S w0 L :=
  fun a w ha hp => ⟨j, hj, ha.weak hl, hL w hp⟩
theorem TQ.join_ret {ι : Type} {f : ι → FrL} {H : ι → List Res} {I : ι → Prop} (h : TQ Q .ret n l S w0 L) : TQ (JoinEnd f H I n S w0 Q) .ret n l S w0 L := h
theorem TQ.join_exit {ι : Type} {f : ι → FrL} {H : ι → List Res} {I : ι → Prop} {id : Nat} (h : TQ Q (.exit id) n l S w0 L) : TQ (JoinEnd f H I n S w0 Q) (.exit id) n l S w0 L := h
/-- The same where one frame is meant. -/
theorem TC.join1 (f : FrL) (H : List Res) {x y : Code} (hx : TC P x (JoinEnd (ι := Unit) (fun _ => f) (fun _ => H) (fun _ => True) n S w0 Q) n l S w0 L) (hy : TC P y Q n f S w0 H) : TC P (x.seq y) Q n l S w0 L := TC.join _ _ _ hx (fun _ _ => hy)
theorem TQ.join1 {f : FrL} {H : List Res} (hl : AllIn l f) (hL : ∀ w, Hp S w0 w L → Hp S w0 w H) : TQ (JoinEnd (ι := Unit) (fun _ => f) (fun _ => H) (fun _ => True) n S w0 Q) .normal n l S w0 L := TQ.join () trivial hl hL

theorem retc {fn : Func} {R : Ending → World → Prop} {t g T k : Nat} {cs : List Value} {e : TypeId} (hT : TStruct P T k) (hr : fn.results = #[.cell t T]) (ht : get l t = some (.pointer (some ⟨g, 0, none⟩))) (hm : Res.blk g (.cells cs.toArray e (0, 0)) ∈ L) (hk : cs.length = k) (h : ∀ w, Hp S w0 w L → R (.returned (.agg cs.toArray)) w) : TQ (bodyPost P fn R) .ret n l S w0 L := fun a w ha hp => by
  have hh : w.heap[g]? = some (.cells cs.toArray e (0, 0)) := hp.at_ _ hm
  have hc : ∀ j v, cs[j]? = some v → w.cell? ((⟨g, 0, none⟩ : Addr).add j) = some v := fun j v hv => by
    rw [add_lit]; simp only [Nat.zero_add]
    simp only [World.cell?, hh]
    simpa using hv
  have := run_loadCells_list (P := P) w ⟨g, 0, none⟩ cs hc
  rw [hk] at this
  refine bodyPost_ret ?_ ha.defers (h w hp)
  simp [results, hr, ha.slot t _ ht, asAddr, loadVar, hT.agg w, hT.size w, this]
end

/-! ### Elements of several cells -/
class Enc (α : Type) where
  sz : Nat
  enc : α → List Value
  len : ∀ x, (enc x).length = sz
  one : ∀ x, ∀ u ∈ enc x, u.oneCell' = true
def encs {α : Type} [Enc α] (xs : List α) : List Value := xs.flatMap Enc.enc
section
variable {α : Type} [Enc α]
theorem encs_length : ∀ xs : List α, (encs xs).length = xs.length * Enc.sz α
  | [] => by simp [encs]
  | x :: r => by
    have := encs_length r
    simp only [encs, List.flatMap_cons, List.length_append, Enc.len, List.length_cons] at this ⊢
    rw [this, Nat.add_mul]; omega
theorem encs_one (xs : List α) : ∀ u ∈ encs xs, u.oneCell' = true := by
  intro u hu
  simp only [encs, List.mem_flatMap] at hu
  obtain ⟨x, _, hx⟩ := hu
  exact Enc.one x u hx
theorem encs_append (xs ys : List α) : encs (xs ++ ys) = encs xs ++ encs ys := by simp [encs]
theorem encs_get [Inhabited α] : ∀ (xs : List α) (i j : Nat), i < xs.length → j < Enc.sz α → (encs xs)[i * Enc.sz α + j]? = (Enc.enc (xs.getD i default))[j]?
  | [], i, j, h, _ => by simp at h
  | x :: r, 0, j, _, hj => by
    simp only [encs, List.flatMap_cons, Nat.zero_mul, Nat.zero_add]
    rw [List.getElem?_append_left (by rw [Enc.len]; exact hj)]
    rfl
  | x :: r, i + 1, j, h, hj => by
    have := encs_get r i j (by simpa using h) hj
    simp only [encs, List.flatMap_cons] at this ⊢
    rw [List.getElem?_append_right (by rw [Enc.len, Nat.add_mul]; omega), Enc.len, show (i + 1) * Enc.sz α + j - Enc.sz α = i * Enc.sz α + j by rw [Nat.add_mul]; omega, this]
    simp
theorem encs_drop : ∀ (xs : List α) (i : Nat), (encs xs).drop (i * Enc.sz α) = encs (xs.drop i)
  | [], i => by simp [encs]
  | x :: r, 0 => by simp
  | x :: r, i + 1 => by
    have := encs_drop r i
    simp only [encs, List.flatMap_cons, List.drop_succ_cons] at this ⊢
    rw [List.drop_append, Enc.len, show (i + 1) * Enc.sz α - Enc.sz α = i * Enc.sz α by rw [Nat.add_mul]; omega, this, List.drop_eq_nil_of_le (by rw [Enc.len, Nat.add_mul]; omega)]
    simp
theorem encs_take : ∀ (xs : List α) (i : Nat), (encs xs).take (i * Enc.sz α) = encs (xs.take i)
  | [], i => by simp [encs]
  | x :: r, 0 => by simp [encs]
  | x :: r, i + 1 => by
    have := encs_take r i
    simp only [encs, List.flatMap_cons, List.take_succ_cons] at this ⊢
    rw [List.take_append, Enc.len, show (i + 1) * Enc.sz α - Enc.sz α = i * Enc.sz α by rw [Nat.add_mul]; omega, this, List.take_of_length_le (by rw [Enc.len, Nat.add_mul]; omega)]
/-- A cell of an element. -/
theorem lk [Inhabited α] {xs : List α} {i j k : Nat} {v : Value} (h : i < xs.length) (hk : k = i * Enc.sz α + j) (hv : (Enc.enc (xs.getD i default))[j]? = some v) : (encs xs)[k]? = some v := by
  subst hk
  have hj : j < Enc.sz α := by
    have := (List.getElem?_eq_some_iff.1 hv).1
    rw [Enc.len] at this; exact this
  rw [encs_get xs i j h hj]; exact hv
/-- An element, whole. -/
theorem lks [Inhabited α] {xs : List α} {i k : Nat} (h : i < xs.length) (hk : k = i * Enc.sz α) : ((encs xs).drop k).take (Enc.sz α) = Enc.enc (xs.getD i default) := by
  subst hk
  rw [encs_drop]
  obtain ⟨y, ys, hy⟩ : ∃ y ys, xs.drop i = y :: ys := by
    cases hd : xs.drop i with
    | nil => rw [List.drop_eq_nil_iff] at hd; omega
    | cons y ys => exact ⟨y, ys, rfl⟩
  rw [hy]
  have e : xs.getD i default = y := by
    rw [List.getD_eq_getElem?_getD]
    have : (xs.drop i)[0]? = some y := by rw [hy]; rfl
    rw [List.getElem?_drop] at this
    simp at this
    rw [this]; rfl
  rw [e]
  simp only [encs, List.flatMap_cons]
  rw [List.take_append_of_le_length (by rw [Enc.len]; exact Nat.le_refl _), List.take_of_length_le (by rw [Enc.len]; exact Nat.le_refl _)]
theorem lkS [Inhabited α] {xs : List α} {k : Nat} {p : α} (h : k < xs.length) (hp : xs.getD k default = p) : ((encs xs).drop (Int.toNat (k : Int) * Enc.sz α)).take (Enc.sz α) = Enc.enc p := by
  subst hp
  exact lks h (by simp)
end
theorem gb {l : FrL} {t : Nat} {b c : Bool} (h : get l t = some (.bool b)) (e : b = c) : get l t = some (.bool c) := e ▸ h
theorem gi {l : FrL} {t : Nat} {k : IntKind} {b c : Int} (h : get l t = some (.int k b)) (e : b = c) : get l t = some (.int k c) := e ▸ h
instance : Enc ByteArray := ⟨1, fun s => [.string s], fun _ => rfl, by intro s u hu; cases hu with | head => rfl | tail _ h => cases h⟩
instance : Enc Bool := ⟨1, fun s => [.bool s], fun _ => rfl, by intro s u hu; cases hu with | head => rfl | tail _ h => cases h⟩
/-- Whole numbers of a kind. -/
structure IntK (k : IntKind) where
  val : Int
instance {k : IntKind} : Inhabited (IntK k) := ⟨⟨0⟩⟩
instance {k : IntKind} : Enc (IntK k) := ⟨1, fun s => [.int k s.val], fun _ => rfl, by intro s u hu; cases hu with | head => rfl | tail _ h => cases h⟩
theorem Hp.i1 {w : World} {r : Res} (h : r.holds w) (n : ¬ r.rw := by exact fun x => x) : Hp NoB w w [r] := Hp.init w [r] (by intro x hx; rw [List.mem_singleton] at hx; subst hx; exact h) (by intro x hx; rw [List.mem_singleton] at hx; subst hx; exact n)
theorem Hp.i2 {w : World} {r s : Res} (h : r.holds w) (h' : s.holds w) (n : ¬ r.rw := by exact fun x => x) (n' : ¬ s.rw := by exact fun x => x) : Hp NoB w w [r, s] := Hp.init w [r, s]
  (by intro x hx; rcases List.mem_cons.1 hx with rfl | hx; exact h; rw [List.mem_singleton] at hx; subst hx; exact h')
  (by intro x hx; rcases List.mem_cons.1 hx with rfl | hx; exact n; rw [List.mem_singleton] at hx; subst hx; exact n')
theorem Hp.i3 {w : World} {r s t : Res} (h : r.holds w) (h' : s.holds w) (h'' : t.holds w) (n : ¬ r.rw := by exact fun x => x) (n' : ¬ s.rw := by exact fun x => x) (n'' : ¬ t.rw := by exact fun x => x) : Hp NoB w w [r, s, t] := Hp.init w [r, s, t]
  (by intro x hx; rcases List.mem_cons.1 hx with rfl | hx; exact h; rcases List.mem_cons.1 hx with rfl | hx; exact h'; rw [List.mem_singleton] at hx; subst hx; exact h'')
  (by intro x hx; rcases List.mem_cons.1 hx with rfl | hx; exact n; rcases List.mem_cons.1 hx with rfl | hx; exact n'; rw [List.mem_singleton] at hx; subst hx; exact n'')
end Go.SK
