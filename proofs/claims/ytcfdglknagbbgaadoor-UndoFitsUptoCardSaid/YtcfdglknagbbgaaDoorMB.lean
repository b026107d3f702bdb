/- Small words for the printed walks: places in the heap's list, splits, joins, elements of several cells. Texts as lists of code points: decoding and encoding, and what is valid. Calls that make and keep memory; conversions of texts. More places in the heap's list. Going over a string's code points. -/
import Derived.Test.YtcfdglknagbbgaaDoorMA
import Derived.Lib.RuneCount
import Derived.Lib.ValidU
import Derived.Lib.TrimUEq
import Derived.Laws.IdiomStrings
import Derived.Laws.Cover4
import Derived.Laws.RangeAny
set_option linter.unusedVariables false
set_option linter.unusedSimpArgs false
namespace Go.SK
open Go Go.RowKit
theorem m0 {r : Res} {L : List Res} : r ∈ r :: L := .head _
theorem rd0 {L : List Res} {v : Value} {sz n : Nat} {xs : List Value} : Rdb (Res.rd v sz n xs :: L) v sz n xs := rdb_rd m0
theorem rw0 {L : List Res} {v : Value} {e : TypeId} {sz n : Nat} {xs : List Value} : Rdb (Res.row v e sz n xs :: L) v sz n xs := rdb_row m0
theorem wn0 {L : List Res} {v : Value} {e : TypeId} {sz n : Nat} {xs : List Value} : Rdb (Res.win v e sz n xs :: L) v sz n xs := rdb_win m0
theorem m1 {r0 : Res} {r : Res} {L : List Res} : r ∈ r0 :: r :: L := .tail _ (.head _)
theorem rd1 {r0 : Res} {L : List Res} {v : Value} {sz n : Nat} {xs : List Value} : Rdb (r0 :: Res.rd v sz n xs :: L) v sz n xs := rdb_rd m1
theorem rw1 {r0 : Res} {L : List Res} {v : Value} {e : TypeId} {sz n : Nat} {xs : List Value} : Rdb (r0 :: Res.row v e sz n xs :: L) v sz n xs := rdb_row m1
theorem wn1 {r0 : Res} {L : List Res} {v : Value} {e : TypeId} {sz n : Nat} {xs : List Value} : Rdb (r0 :: Res.win v e sz n xs :: L) v sz n xs := rdb_win m1
theorem m2 {r0 r1 : Res} {r : Res} {L : List Res} : r ∈ r0 :: r1 :: r :: L := .tail _ (.tail _ (.head _))
theorem rd2 {r0 r1 : Res} {L : List Res} {v : Value} {sz n : Nat} {xs : List Value} : Rdb (r0 :: r1 :: Res.rd v sz n xs :: L) v sz n xs := rdb_rd m2
theorem rw2 {r0 r1 : Res} {L : List Res} {v : Value} {e : TypeId} {sz n : Nat} {xs : List Value} : Rdb (r0 :: r1 :: Res.row v e sz n xs :: L) v sz n xs := rdb_row m2
theorem wn2 {r0 r1 : Res} {L : List Res} {v : Value} {e : TypeId} {sz n : Nat} {xs : List Value} : Rdb (r0 :: r1 :: Res.win v e sz n xs :: L) v sz n xs := rdb_win m2
theorem m3 {r0 r1 r2 : Res} {r : Res} {L : List Res} : r ∈ r0 :: r1 :: r2 :: r :: L := .tail _ (.tail _ (.tail _ (.head _)))
theorem rd3 {r0 r1 r2 : Res} {L : List Res} {v : Value} {sz n : Nat} {xs : List Value} : Rdb (r0 :: r1 :: r2 :: Res.rd v sz n xs :: L) v sz n xs := rdb_rd m3
theorem rw3 {r0 r1 r2 : Res} {L : List Res} {v : Value} {e : TypeId} {sz n : Nat} {xs : List Value} : Rdb (r0 :: r1 :: r2 :: Res.row v e sz n xs :: L) v sz n xs := rdb_row m3
theorem wn3 {r0 r1 r2 : Res} {L : List Res} {v : Value} {e : TypeId} {sz n : Nat} {xs : List Value} : Rdb (r0 :: r1 :: r2 :: Res.win v e sz n xs :: L) v sz n xs := rdb_win m3
theorem m4 {r0 r1 r2 r3 : Res} {r : Res} {L : List Res} : r ∈ r0 :: r1 :: r2 :: r3 :: r :: L := .tail _ (.tail _ (.tail _ (.tail _ (.head _))))
theorem rd4 {r0 r1 r2 r3 : Res} {L : List Res} {v : Value} {sz n : Nat} {xs : List Value} : Rdb (r0 :: r1 :: r2 :: r3 :: Res.rd v sz n xs :: L) v sz n xs := rdb_rd m4
theorem rw4 {r0 r1 r2 r3 : Res} {L : List Res} {v : Value} {e : TypeId} {sz n : Nat} {xs : List Value} : Rdb (r0 :: r1 :: r2 :: r3 :: Res.row v e sz n xs :: L) v sz n xs := rdb_row m4
theorem wn4 {r0 r1 r2 r3 : Res} {L : List Res} {v : Value} {e : TypeId} {sz n : Nat} {xs : List Value} : Rdb (r0 :: r1 :: r2 :: r3 :: Res.win v e sz n xs :: L) v sz n xs := rdb_win m4
theorem m5 {r0 r1 r2 r3 r4 : Res} {r : Res} {L : List Res} : r ∈ r0 :: r1 :: r2 :: r3 :: r4 :: r :: L := .tail _ (.tail _ (.tail _ (.tail _ (.tail _ (.head _)))))
theorem rd5 {r0 r1 r2 r3 r4 : Res} {L : List Res} {v : Value} {sz n : Nat} {xs : List Value} : Rdb (r0 :: r1 :: r2 :: r3 :: r4 :: Res.rd v sz n xs :: L) v sz n xs := rdb_rd m5
theorem rw5 {r0 r1 r2 r3 r4 : Res} {L : List Res} {v : Value} {e : TypeId} {sz n : Nat} {xs : List Value} : Rdb (r0 :: r1 :: r2 :: r3 :: r4 :: Res.row v e sz n xs :: L) v sz n xs := rdb_row m5
theorem wn5 {r0 r1 r2 r3 r4 : Res} {L : List Res} {v : Value} {e : TypeId} {sz n : Nat} {xs : List Value} : Rdb (r0 :: r1 :: r2 :: r3 :: r4 :: Res.win v e sz n xs :: L) v sz n xs := rdb_win m5
theorem m6 {r0 r1 r2 r3 r4 r5 : Res} {r : Res} {L : List Res} : r ∈ r0 :: r1 :: r2 :: r3 :: r4 :: r5 :: r :: L := .tail _ (.tail _ (.tail _ (.tail _ (.tail _ (.tail _ (.head _))))))
theorem rd6 {r0 r1 r2 r3 r4 r5 : Res} {L : List Res} {v : Value} {sz n : Nat} {xs : List Value} : Rdb (r0 :: r1 :: r2 :: r3 :: r4 :: r5 :: Res.rd v sz n xs :: L) v sz n xs := rdb_rd m6
theorem rw6 {r0 r1 r2 r3 r4 r5 : Res} {L : List Res} {v : Value} {e : TypeId} {sz n : Nat} {xs : List Value} : Rdb (r0 :: r1 :: r2 :: r3 :: r4 :: r5 :: Res.row v e sz n xs :: L) v sz n xs := rdb_row m6
theorem wn6 {r0 r1 r2 r3 r4 r5 : Res} {L : List Res} {v : Value} {e : TypeId} {sz n : Nat} {xs : List Value} : Rdb (r0 :: r1 :: r2 :: r3 :: r4 :: r5 :: Res.win v e sz n xs :: L) v sz n xs := rdb_win m6
theorem m7 {r0 r1 r2 r3 r4 r5 r6 : Res} {r : Res} {L : List Res} : r ∈ r0 :: r1 :: r2 :: r3 :: r4 :: r5 :: r6 :: r :: L := .tail _ (.tail _ (.tail _ (.tail _ (.tail _ (.tail _ (.tail _ (.head _)))))))
theorem rd7 {r0 r1 r2 r3 r4 r5 r6 : Res} {L : List Res} {v : Value} {sz n : Nat} {xs : List Value} : Rdb (r0 :: r1 :: r2 :: r3 :: r4 :: r5 :: r6 :: Res.rd v sz n xs :: L) v sz n xs := rdb_rd m7
theorem rw7 {r0 r1 r2 r3 r4 r5 r6 : Res} {L : List Res} {v : Value} {e : TypeId} {sz n : Nat} {xs : List Value} : Rdb (r0 :: r1 :: r2 :: r3 :: r4 :: r5 :: r6 :: Res.row v e sz n xs :: L) v sz n xs := rdb_row m7
theorem wn7 {r0 r1 r2 r3 r4 r5 r6 : Res} {L : List Res} {v : Value} {e : TypeId} {sz n : Nat} {xs : List Value} : Rdb (r0 :: r1 :: r2 :: r3 :: r4 :: r5 :: r6 :: Res.win v e sz n xs :: L) v sz n xs := rdb_win m7
theorem m8 {r0 r1 r2 r3 r4 r5 r6 r7 : Res} {r : Res} {L : List Res} : r ∈ r0 :: r1 :: r2 :: r3 :: r4 :: r5 :: r6 :: r7 :: r :: L := .tail _ (.tail _ (.tail _ (.tail _ (.tail _ (.tail _ (.tail _ (.tail _ (.head _))))))))
theorem rd8 {r0 r1 r2 r3 r4 r5 r6 r7 : Res} {L : List Res} {v : Value} {sz n : Nat} {xs : List Value} : Rdb (r0 :: r1 :: r2 :: r3 :: r4 :: r5 :: r6 :: r7 :: Res.rd v sz n xs :: L) v sz n xs := rdb_rd m8
theorem rw8 {r0 r1 r2 r3 r4 r5 r6 r7 : Res} {L : List Res} {v : Value} {e : TypeId} {sz n : Nat} {xs : List Value} : Rdb (r0 :: r1 :: r2 :: r3 :: r4 :: r5 :: r6 :: r7 :: Res.row v e sz n xs :: L) v sz n xs := rdb_row m8
theorem wn8 {r0 r1 r2 r3 r4 r5 r6 r7 : Res} {L : List Res} {v : Value} {e : TypeId} {sz n : Nat} {xs : List Value} : Rdb (r0 :: r1 :: r2 :: r3 :: r4 :: r5 :: r6 :: r7 :: Res.win v e sz n xs :: L) v sz n xs := rdb_win m8
section
variable {P : Program} {Q : Exit → Act → World → Prop} {n : Nat} {l l' : FrL} {S : Nat → Prop} {w0 : World} {L L' LS : List Res} {ops : Array Oper} {rest : List Oper} {ord : Od} {t : Nat}
theorem TL.splitD {p : Prop} [Decidable p] (ht : p → TL P ops Q rest n ((t, .bool true) :: l) S w0 L) (hf : ¬ p → TL P ops Q rest n ((t, .bool false) :: l) S w0 L) : TL P ops Q rest n ((t, .bool (decide p)) :: l) S w0 L := by
  by_cases h : p
  · rw [decide_eq_true h]; exact ht h
  · rw [decide_eq_false h]; exact hf h
theorem TL.splitB {b : Bool} (ht : b = true → TL P ops Q rest n ((t, .bool true) :: l) S w0 L) (hf : b = false → TL P ops Q rest n ((t, .bool false) :: l) S w0 L) : TL P ops Q rest n ((t, .bool b) :: l) S w0 L := by
  cases b
  · exact hf rfl
  · exact ht rfl
theorem TR.splitD {p : Prop} [Decidable p] (ht : p → TR P ops Q LS ord n ((t, .bool true) :: l) S w0 L) (hf : ¬ p → TR P ops Q LS ord n ((t, .bool false) :: l) S w0 L) : TR P ops Q LS ord n ((t, .bool (decide p)) :: l) S w0 L := by
  by_cases h : p
  · rw [decide_eq_true h]; exact ht h
  · rw [decide_eq_false h]; exact hf h
theorem TR.splitB {b : Bool} (ht : b = true → TR P ops Q LS ord n ((t, .bool true) :: l) S w0 L) (hf : b = false → TR P ops Q LS ord n ((t, .bool false) :: l) S w0 L) : TR P ops Q LS ord n ((t, .bool b) :: l) S w0 L := by
  cases b
  · exact hf rfl
  · exact ht rfl
theorem TC.condB {t : Nat} {x y : Code} {b : Bool} (hc : evO l (.tmp t) = some (.bool b)) (ht : b = true → TC P x Q n ((t, .bool true) :: l) S w0 L) (hf : b = false → TC P y Q n ((t, .bool false) :: l) S w0 L) : TC P (.cond (.tmp t) x y) Q n l S w0 L := by
  have e : decide (b = true) = b := by cases b <;> rfl
  refine TC.condD (p := b = true) (by rw [e]; exact hc) ht (fun h => hf (by simpa using h))

/-- Where ways meet: what is known then. -/
def JoinEnd {ι : Type} (f : ι → FrL) (H : ι → List Res) (I : ι → Prop) (n : Nat) (S : Nat → Prop) (w0 : World) (Q : Exit → Act → World → Prop) : Exit → Act → World → Prop :=
  Exit.then (fun a w => ∃ j, I j ∧ Has n (f j) a ∧ Hp S w0 w (H j)) Q
theorem TC.join {ι : Type} (f : ι → FrL) (H : ι → List Res) (I : ι → Prop) {x y : Code} (hx : TC P x (JoinEnd f H I n S w0 Q) n l S w0 L) (hy : ∀ j, I j → TC P y Q n (f j) S w0 (H j)) : TC P (x.seq y) Q n l S w0 L := by
  intro a w ha hp
  refine wp_seq (Code.wp_mono (fun e a w he => ?_) (hx a w ha hp))
  cases e with
  | normal => obtain ⟨j, h1, h2, h3⟩ := he; exact hy j h1 a w h2 h3
  | _ => exact he
theorem TQ.join {ι : Type} {f : ι → FrL} {H : ι → List Res} {I : ι → Prop} (j : ι) (hj : I j) (hl : AllIn l (f j)) (hL : ∀ w, Hp S w0 w L → Hp S w0 w (H j)) : TQ (JoinEnd f H I n S w0 Q) .normal n l S w0 L :=
  fun a w ha hp => ⟨j, hj, ha.weak hl, hL w hp⟩
theorem TQ.join_ret {ι : Type} {f : ι → FrL} {H : ι → List Res} {I : ι → Prop} (h : TQ Q .ret n l S w0 L) : TQ (JoinEnd f H I n S w0 Q) .ret n l S w0 L := h
theorem TQ.join_exit {ι : Type} {f : ι → FrL} {H : ι → List Res} {I : ι → Prop} {id : Nat} (h : TQ Q (.exit id) n l S w0 L) : TQ (JoinEnd f H I n S w0 Q) (.exit id) n l S w0 L := h
/-- The same where one frame is meant. -/
theorem TC.join1 (f : FrL) (H : List Res) {x y : Code} (hx : TC P x (JoinEnd (ι := Unit) (fun _ => f) (fun _ => H) (fun _ => True) n S w0 Q) n l S w0 L) (hy : TC P y Q n f S w0 H) : TC P (x.seq y) Q n l S w0 L := TC.join _ _ _ hx (fun _ _ => hy)
theorem TQ.join1 {f : FrL} {H : List Res} (hl : AllIn l f) (hL : ∀ w, Hp S w0 w L → Hp S w0 w H) : TQ (JoinEnd (ι := Unit) (fun _ => f) (fun _ => H) (fun _ => True) n S w0 Q) .normal n l S w0 L := TQ.join () trivial hl hL

theorem retc {fn : Func} {R : Ending → World → Prop} {t g T k : Nat} {cs : List Value} {e : TypeId} (hT : TStruct P T k) (hr : fn.results = #[.cell t T]) (ht : get l t = some (.pointer (some ⟨g, 0, none⟩))) (hm : Res.blk g (.cells cs.toArray e (0, 0)) ∈ L) (hk : cs.length = k) (h : ∀ w, Hp S w0 w L → R (.returned (.agg cs.toArray)) w) : TQ (bodyPost P fn R) .ret n l S w0 L := fun a w ha hp => by
  have hh : w.heap[g]? = some (.cells cs.toArray e (0, 0)) := hp.at_ _ hm
  have hc : ∀ j v, cs[j]? = some v → w.cell? ((⟨g, 0, none⟩ : Addr).add j) = some v := fun j v hv => by
    rw [add_lit]; simp only [Nat.zero_add]
    simp only [World.cell?, hh]
    simpa using hv
  have := run_loadCells_list (P := P) w ⟨g, 0, none⟩ cs hc
  rw [hk] at this
  refine bodyPost_ret ?_ ha.defers (h w hp)
  simp [results, hr, ha.slot t _ ht, asAddr, loadVar, hT.agg w, hT.size w, this]
end

/-! ### Elements of several cells -/
class Enc (α : Type) where
  sz : Nat
  enc : α → List Value
  len : ∀ x, (enc x).length = sz
  one : ∀ x, ∀ u ∈ enc x, u.oneCell' = true
def encs {α : Type} [Enc α] (xs : List α) : List Value := xs.flatMap Enc.enc
section
variable {α : Type} [Enc α]
theorem encs_length : ∀ xs : List α, (encs xs).length = xs.length * Enc.sz α
  | [] => by simp [encs]
  | x :: r => by
    have := encs_length r
    simp only [encs, List.flatMap_cons, List.length_append, Enc.len, List.length_cons] at this ⊢
    rw [this, Nat.add_mul]; omega
theorem encs_one (xs : List α) : ∀ u ∈ encs xs, u.oneCell' = true := by
  intro u hu
  simp only [encs, List.mem_flatMap] at hu
  obtain ⟨x, _, hx⟩ := hu
  exact Enc.one x u hx
theorem encs_append (xs ys : List α) : encs (xs ++ ys) = encs xs ++ encs ys := by simp [encs]
theorem encs_get [Inhabited α] : ∀ (xs : List α) (i j : Nat), i < xs.length → j < Enc.sz α → (encs xs)[i * Enc.sz α + j]? = (Enc.enc (xs.getD i default))[j]?
  | [], i, j, h, _ => by simp at h
  | x :: r, 0, j, _, hj => by
    simp only [encs, List.flatMap_cons, Nat.zero_mul, Nat.zero_add]
    rw [List.getElem?_append_left (by rw [Enc.len]; exact hj)]
    rfl
  | x :: r, i + 1, j, h, hj => by
    have := encs_get r i j (by simpa using h) hj
    simp only [encs, List.flatMap_cons] at this ⊢
    rw [List.getElem?_append_right (by rw [Enc.len, Nat.add_mul]; omega), Enc.len, show (i + 1) * Enc.sz α + j - Enc.sz α = i * Enc.sz α + j by rw [Nat.add_mul]; omega, this]
    simp
theorem encs_drop : ∀ (xs : List α) (i : Nat), (encs xs).drop (i * Enc.sz α) = encs (xs.drop i)
  | [], i => by simp [encs]
  | x :: r, 0 => by simp
  | x :: r, i + 1 => by
    have := encs_drop r i
    simp only [encs, List.flatMap_cons, List.drop_succ_cons] at this ⊢
    rw [List.drop_append, Enc.len, show (i + 1) * Enc.sz α - Enc.sz α = i * Enc.sz α by rw [Nat.add_mul]; omega, this, List.drop_eq_nil_of_le (by rw [Enc.len, Nat.add_mul]; omega)]
    simp
theorem encs_take : ∀ (xs : List α) (i : Nat), (encs xs).take (i * Enc.sz α) = encs (xs.take i)
  | [], i => by simp [encs]
  | x :: r, 0 => by simp [encs]
  | x :: r, i + 1 => by
    have := encs_take r i
    simp only [encs, List.flatMap_cons, List.take_succ_cons] at this ⊢
    rw [List.take_append, Enc.len, show (i + 1) * Enc.sz α - Enc.sz α = i * Enc.sz α by rw [Nat.add_mul]; omega, this, List.take_of_length_le (by rw [Enc.len, Nat.add_mul]; omega)]
/-- A cell of an element. -/
theorem lk [Inhabited α] {xs : List α} {i j k : Nat} {v : Value} (h : i < xs.length) (hk : k = i * Enc.sz α + j) (hv : (Enc.enc (xs.getD i default))[j]? = some v) : (encs xs)[k]? = some v := by
  subst hk
  have hj : j < Enc.sz α := by
    have := (List.getElem?_eq_some_iff.1 hv).1
    rw [Enc.len] at this; exact this
  rw [encs_get xs i j h hj]; exact hv
/-- An element, whole. -/
theorem lks [Inhabited α] {xs : List α} {i k : Nat} (h : i < xs.length) (hk : k = i * Enc.sz α) : ((encs xs).drop k).take (Enc.sz α) = Enc.enc (xs.getD i default) := by
  subst hk
  rw [encs_drop]
  obtain ⟨y, ys, hy⟩ : ∃ y ys, xs.drop i = y :: ys := by
    cases hd : xs.drop i with
    | nil => rw [List.drop_eq_nil_iff] at hd; omega
    | cons y ys => exact ⟨y, ys, rfl⟩
  rw [hy]
  have e : xs.getD i default = y := by
    rw [List.getD_eq_getElem?_getD]
    have : (xs.drop i)[0]? = some y := by rw [hy]; rfl
    rw [List.getElem?_drop] at this
    simp at this
    rw [this]; rfl
  rw [e]
  simp only [encs, List.flatMap_cons]
  rw [List.take_append_of_le_length (by rw [Enc.len]; exact Nat.le_refl _), List.take_of_length_le (by rw [Enc.len]; exact Nat.le_refl _)]
theorem lkS [Inhabited α] {xs : List α} {k : Nat} {p : α} (h : k < xs.length) (hp : xs.getD k default = p) : ((encs xs).drop (Int.toNat (k : Int) * Enc.sz α)).take (Enc.sz α) = Enc.enc p := by
  subst hp
  exact lks h (by simp)
end
theorem gb {l : FrL} {t : Nat} {b c : Bool} (h : get l t = some (.bool b)) (e : b = c) : get l t = some (.bool c) := e ▸ h
theorem gi {l : FrL} {t : Nat} {k : IntKind} {b c : Int} (h : get l t = some (.int k b)) (e : b = c) : get l t = some (.int k c) := e ▸ h
instance : Enc ByteArray := ⟨1, fun s => [.string s], fun _ => rfl, by intro s u hu; cases hu with | head => rfl | tail _ h => cases h⟩
instance : Enc Bool := ⟨1, fun s => [.bool s], fun _ => rfl, by intro s u hu; cases hu with | head => rfl | tail _ h => cases h⟩
/-- Whole numbers of a kind. -/
structure IntK (k : IntKind) where
  val : Int
instance {k : IntKind} : Inhabited (IntK k) := ⟨⟨0⟩⟩
instance {k : IntKind} : Enc (IntK k) := ⟨1, fun s => [.int k s.val], fun _ => rfl, by intro s u hu; cases hu with | head => rfl | tail _ h => cases h⟩
theorem Hp.i1 {w : World} {r : Res} (h : r.holds w) (n : ¬ r.rw := by exact fun x => x) : Hp NoB w w [r] := Hp.init w [r] (by intro x hx; rw [List.mem_singleton] at hx; subst hx; exact h) (by intro x hx; rw [List.mem_singleton] at hx; subst hx; exact n)
theorem Hp.i2 {w : World} {r s : Res} (h : r.holds w) (h' : s.holds w) (n : ¬ r.rw := by exact fun x => x) (n' : ¬ s.rw := by exact fun x => x) : Hp NoB w w [r, s] := Hp.init w [r, s]
  (by intro x hx; rcases List.mem_cons.1 hx with rfl | hx; exact h; rw [List.mem_singleton] at hx; subst hx; exact h')
  (by intro x hx; rcases List.mem_cons.1 hx with rfl | hx; exact n; rw [List.mem_singleton] at hx; subst hx; exact n')
theorem Hp.i3 {w : World} {r s t : Res} (h : r.holds w) (h' : s.holds w) (h'' : t.holds w) (n : ¬ r.rw := by exact fun x => x) (n' : ¬ s.rw := by exact fun x => x) (n'' : ¬ t.rw := by exact fun x => x) : Hp NoB w w [r, s, t] := Hp.init w [r, s, t]
  (by intro x hx; rcases List.mem_cons.1 hx with rfl | hx; exact h; rcases List.mem_cons.1 hx with rfl | hx; exact h'; rw [List.mem_singleton] at hx; subst hx; exact h'')
  (by intro x hx; rcases List.mem_cons.1 hx with rfl | hx; exact n; rcases List.mem_cons.1 hx with rfl | hx; exact n'; rw [List.mem_singleton] at hx; subst hx; exact n'')
end Go.SK

set_option linter.unusedVariables false
set_option linter.unusedSimpArgs false
set_option maxRecDepth 100000
namespace Go.SK
open Go Go.Lib
def scalar (r : Int) : Prop := (0 ≤ r ∧ r < 55296) ∨ (57344 ≤ r ∧ r ≤ 1114111)
instance (r : Int) : Decidable (scalar r) := by unfold scalar; infer_instance
theorem scalar_valid {r : Int} (h : scalar r) : Utf8.valid r = true := by
  rcases h with ⟨h1, h2⟩ | ⟨h1, h2⟩
  · simp [Utf8.valid, h1, h2]
  · simp [Utf8.valid]; omega
def encL (r : Int) : List UInt8 := (Utf8.encode r).data.toList
def encsL (l : List Int) : List UInt8 := l.flatMap encL
theorem encL_cases {r : Int} (h : scalar r) :
    (r < 128 ∧ encL r = [UInt8.ofNat r.toNat]) ∨
    (128 ≤ r ∧ r < 2048 ∧ encL r = [UInt8.ofNat (192 + r.toNat / 64), UInt8.ofNat (128 + r.toNat % 64)]) ∨
    (2048 ≤ r ∧ r < 65536 ∧ encL r = [UInt8.ofNat (224 + r.toNat / 4096), UInt8.ofNat (128 + r.toNat / 64 % 64), UInt8.ofNat (128 + r.toNat % 64)]) ∨
    (65536 ≤ r ∧ encL r = [UInt8.ofNat (240 + r.toNat / 262144), UInt8.ofNat (128 + r.toNat / 4096 % 64), UInt8.ofNat (128 + r.toNat / 64 % 64), UInt8.ofNat (128 + r.toNat % 64)]) := by
  have hv := scalar_valid h
  have h0 : 0 ≤ r := by rcases h with h | h <;> omega
  unfold encL Utf8.encode
  simp only [hv, if_true]
  by_cases c1 : r.toNat < 128
  · left; simp only [c1, if_true]; exact ⟨by omega, trivial⟩
  · right
    simp only [c1, if_false]
    by_cases c2 : r.toNat < 2048
    · left; simp only [c2, if_true]; exact ⟨by omega, by omega, trivial⟩
    · right
      simp only [c2, if_false]
      by_cases c3 : r.toNat < 65536
      · left; simp only [c3, if_true]; exact ⟨by omega, by omega, trivial⟩
      · right; simp only [c3, if_false]; exact ⟨by omega, trivial⟩
theorem u8n (n : Nat) (h : n < 256) : (UInt8.ofNat n).toNat = n := by simp; omega
theorem decL_enc {r : Int} (h : scalar r) (t : List UInt8) : decodeL (encL r ++ t) = (r.toNat, (encL r).length) := by
  rw [decodeL_N]
  have h0 : 0 ≤ r := by rcases h with h | h <;> omega
  rcases encL_cases h with ⟨h1, e⟩ | ⟨h1, h2, e⟩ | ⟨h1, h2, e⟩ | ⟨h1, e⟩ <;> rw [e] <;> simp only [List.cons_append, List.nil_append, List.getD_cons_zero, List.getD_cons_succ, List.length_cons, List.length_nil]
  · rw [u8n _ (by omega)]
    unfold decodeN
    rw [if_pos (by omega)]
  · rw [u8n _ (by omega), u8n _ (by omega)]
    unfold decodeN
    rw [if_neg (by omega), if_pos (by omega), if_pos (by omega)]
    exact Prod.ext (by simp only; omega) rfl
  · have hs : r < 55296 ∨ 57344 ≤ r := by rcases h with h | h <;> omega
    rw [u8n _ (by omega), u8n _ (by omega), u8n _ (by omega)]
    unfold decodeN
    have e1 : (224 + r.toNat / 4096) % 16 * 4096 + (128 + r.toNat / 64 % 64) % 64 * 64 + (128 + r.toNat % 64) % 64 = r.toNat := by omega
    rw [if_neg (by omega), if_neg (by omega), if_pos (by omega), e1, if_pos (by omega)]
  · have hs : r ≤ 1114111 := by rcases h with h | h <;> omega
    rw [u8n _ (by omega), u8n _ (by omega), u8n _ (by omega), u8n _ (by omega)]
    unfold decodeN
    have e1 : (240 + r.toNat / 262144) % 8 * 262144 + (128 + r.toNat / 4096 % 64) % 64 * 4096 + (128 + r.toNat / 64 % 64) % 64 * 64 + (128 + r.toNat % 64) % 64 = r.toNat := by omega
    rw [if_neg (by omega), if_neg (by omega), if_neg (by omega), if_pos (by omega), e1, if_pos (by omega)]
theorem encL_len (r : Int) : 1 ≤ (encL r).length ∧ (encL r).length ≤ 4 := by
  refine ⟨?_, by have := encode_size_le r; unfold encL; rw [Array.length_toList]; exact this⟩
  unfold encL Utf8.encode
  simp only
  repeat' split
  all_goals simp
theorem u8_eq {b : UInt8} {n : Nat} (h : b.toNat = n) : UInt8.ofNat n = b := by subst h; simp
set_option maxHeartbeats 2000000 in
theorem decL_ok {l : List UInt8} (hne : l ≠ []) (hok : ¬ ((decodeL l).1 = 65533 ∧ (decodeL l).2 = 1)) : scalar ((decodeL l).1 : Int) ∧ l = encL ((decodeL l).1 : Int) ++ l.drop (decodeL l).2 := by
  obtain ⟨b0, t, rfl⟩ := List.exists_cons_of_ne_nil hne
  have hb0 := UInt8.toNat_lt b0
  rw [decodeL_N] at hok ⊢
  simp only [List.getD_cons_zero, List.getD_cons_succ] at hok ⊢
  unfold decodeN at hok ⊢
  split at hok
  · rename_i c1
    rw [if_pos c1]
    have hs : scalar (b0.toNat : Int) := by left; omega
    refine ⟨hs, ?_⟩
    rcases encL_cases hs with ⟨_, e⟩ | ⟨h1, _, e⟩ | ⟨h1, _, e⟩ | ⟨h1, e⟩
    · show _ = encL (b0.toNat : Int) ++ _
      rw [e]; simp
    all_goals omega
  · rename_i c1
    rw [if_neg c1]
    split at hok
    · rename_i c2
      rw [if_pos c2]
      split at hok
      · rename_i c3
        rw [if_pos c3]
        match t, c2 with
        | [], c2 => simp at c2
        | b1 :: t, c2 =>
          have hb1 := UInt8.toNat_lt b1
          simp only [List.getD_cons_zero, List.getD_cons_succ] at c2 c3 ⊢
          have hs : scalar ((b0.toNat % 32 * 64 + b1.toNat % 64 : Nat) : Int) := by left; omega
          refine ⟨hs, ?_⟩
          rcases encL_cases hs with ⟨h1, e⟩ | ⟨h1, h2, e⟩ | ⟨h1, _, e⟩ | ⟨h1, e⟩
          · omega
          · show _ = encL ((b0.toNat % 32 * 64 + b1.toNat % 64 : Nat) : Int) ++ _
            rw [e, u8_eq (b := b0) (by omega), u8_eq (b := b1) (by omega)]; simp
          all_goals omega
      · exact absurd ⟨rfl, rfl⟩ hok
    · rename_i c2
      rw [if_neg c2]
      split at hok
      · rename_i c3
        rw [if_pos c3]
        split at hok
        · rename_i c4
          rw [if_pos c4]
          match t, c3 with
          | [], c3 => simp at c3
          | [b1], c3 => simp at c3
          | b1 :: b2 :: t, c3 =>
            have hb1 := UInt8.toNat_lt b1
            have hb2 := UInt8.toNat_lt b2
            simp only [List.getD_cons_zero, List.getD_cons_succ] at c3 c4 ⊢
            have hs : scalar ((b0.toNat % 16 * 4096 + b1.toNat % 64 * 64 + b2.toNat % 64 : Nat) : Int) := by unfold scalar; omega
            refine ⟨hs, ?_⟩
            rcases encL_cases hs with ⟨h1, e⟩ | ⟨h1, h2, e⟩ | ⟨h1, _, e⟩ | ⟨h1, e⟩
            · omega
            · omega
            · show _ = encL ((b0.toNat % 16 * 4096 + b1.toNat % 64 * 64 + b2.toNat % 64 : Nat) : Int) ++ _
              rw [e, u8_eq (b := b0) (by omega), u8_eq (b := b1) (by omega), u8_eq (b := b2) (by omega)]; simp
            · omega
        · exact absurd ⟨rfl, rfl⟩ hok
      · rename_i c3
        rw [if_neg c3]
        split at hok
        · rename_i c4
          rw [if_pos c4]
          split at hok
          · rename_i c5
            rw [if_pos c5]
            rcases t with _ | ⟨b1, _ | ⟨b2, _ | ⟨b3, t⟩⟩⟩
            · exact absurd c4.2.1.1 (by simp only [List.length_cons, List.length_nil]; omega)
            · exact absurd c4.2.2.1.1 (by simp only [List.length_cons, List.length_nil]; omega)
            · exact absurd c4.2.2.2.1 (by simp only [List.length_cons, List.length_nil]; omega)
            · clear hok
              have hb1 := UInt8.toNat_lt b1
              have hb2 := UInt8.toNat_lt b2
              have hb3 := UInt8.toNat_lt b3
              simp only [List.getD_cons_zero, List.getD_cons_succ] at c4 c5 ⊢
              have hs : scalar ((b0.toNat % 8 * 262144 + b1.toNat % 64 * 4096 + b2.toNat % 64 * 64 + b3.toNat % 64 : Nat) : Int) := by unfold scalar; omega
              refine ⟨hs, ?_⟩
              rcases encL_cases hs with ⟨h1, e⟩ | ⟨h1, h2, e⟩ | ⟨h1, _, e⟩ | ⟨h1, e⟩
              · omega
              · omega
              · omega
              · show _ = encL ((b0.toNat % 8 * 262144 + b1.toNat % 64 * 4096 + b2.toNat % 64 * 64 + b3.toNat % 64 : Nat) : Int) ++ _
                rw [e, u8_eq (b := b0) (by omega), u8_eq (b := b1) (by omega), u8_eq (b := b2) (by omega), u8_eq (b := b3) (by omega)]; simp
          · exact absurd ⟨rfl, rfl⟩ hok
        · exact absurd ⟨rfl, rfl⟩ hok
theorem dec_ne {r : Int} (h : scalar r) : ¬ ((r.toNat = 65533) ∧ (encL r).length = 1) := by
  rintro ⟨h1, h2⟩
  rcases encL_cases h with ⟨h3, e⟩ | ⟨_, _, e⟩ | ⟨_, _, e⟩ | ⟨_, e⟩
  · omega
  all_goals rw [e] at h2; simp at h2
/-- The code points of bytes, by the model's own decoder. -/
def decsGo : Nat → List UInt8 → List Int
  | 0, _ => []
  | n + 1, l => if l = [] then [] else ((decodeL l).1 : Int) :: decsGo n (l.drop (decodeL l).2)
def decsL (l : List UInt8) : List Int := decsGo l.length l
theorem encsL_cons (r : Int) (l : List Int) : encsL (r :: l) = encL r ++ encsL l := rfl
theorem encsL_append (a b : List Int) : encsL (a ++ b) = encsL a ++ encsL b := by simp [encsL]
theorem decsGo_enc : ∀ (l : List Int) (n : Nat), (∀ r ∈ l, scalar r) → (encsL l).length ≤ n → decsGo n (encsL l) = l
  | [], n, _, _ => by cases n <;> simp [decsGo, encsL]
  | r :: l, n, h, hn => by
    have hr := h r (.head _)
    have h1 := encL_len r
    rw [encsL_cons, List.length_append] at hn
    obtain ⟨n, rfl⟩ : ∃ m, n = m + 1 := ⟨n - 1, by omega⟩
    have hne : encsL (r :: l) ≠ [] := by intro e; have := congrArg List.length e; rw [encsL_cons, List.length_append, List.length_nil] at this; omega
    unfold decsGo
    rw [if_neg hne, encsL_cons, decL_enc hr]
    have h0 : 0 ≤ r := by rcases hr with h | h <;> omega
    rw [List.drop_left, decsGo_enc l n (fun x hx => h x (.tail _ hx)) (by omega)]
    congr 1; show ((r.toNat : Nat) : Int) = r; omega
theorem decsL_enc {l : List Int} (h : ∀ r ∈ l, scalar r) : decsL (encsL l) = l := decsGo_enc l _ h (Nat.le_refl _)
theorem validGo_enc : ∀ (l : List Int) (n : Nat), (∀ r ∈ l, scalar r) → (encsL l).length ≤ n → validGoD n (encsL l) = true
  | [], n, _, _ => by cases n <;> simp [validGoD, encsL]
  | r :: l, n, h, hn => by
    have hr := h r (.head _)
    have h1 := encL_len r
    rw [encsL_cons, List.length_append] at hn
    obtain ⟨n, rfl⟩ : ∃ m, n = m + 1 := ⟨n - 1, by omega⟩
    have hne : encsL (r :: l) ≠ [] := by intro e; have := congrArg List.length e; rw [encsL_cons, List.length_append, List.length_nil] at this; omega
    unfold validGoD
    rw [if_neg hne, encsL_cons, decL_enc hr, if_neg (dec_ne hr), List.drop_left, validGo_enc l n (fun x hx => h x (.tail _ hx)) (by omega)]
theorem validGo_ex : ∀ (n : Nat) (l : List UInt8), l.length ≤ n → validGoD n l = true → (∀ r ∈ decsGo n l, scalar r) ∧ encsL (decsGo n l) = l
  | 0, l, h, _ => by
    have : l = [] := List.length_eq_zero_iff.1 (by omega)
    subst this; simp [decsGo, encsL]
  | n + 1, l, h, hv => by
    unfold decsGo
    split
    · rename_i e; subst e; simp [encsL]
    · rename_i hne
      unfold validGoD at hv
      rw [if_neg hne] at hv
      split at hv
      · cases hv
      · rename_i hok
        have hd := decL_ok hne hok
        have hw := decodeL_width l
        have ih := validGo_ex n (l.drop (decodeL l).2) (by rw [List.length_drop]; omega) hv
        refine ⟨fun r hr => ?_, ?_⟩
        · rcases List.mem_cons.1 hr with rfl | hr
          · exact hd.1
          · exact ih.1 r hr
        · rw [encsL_cons, ih.2]; exact hd.2.symm
/-! ### Over strings -/
def valid (s : ByteArray) : Bool := Lib.validD s.data.toList
def dec (s : ByteArray) : List Int := decsL s.data.toList
def enc (l : List Int) : ByteArray := ⟨(encsL l).toArray⟩
theorem ba_ext {s t : ByteArray} (h : s.data.toList = t.data.toList) : s = t := by
  cases s; cases t; congr 1; exact Array.toList_inj.1 h
theorem valid_enc {l : List Int} (h : ∀ r ∈ l, scalar r) : valid (enc l) = true := by simp only [valid, enc, validD]; exact validGo_enc l _ h (Nat.le_refl _)
theorem dec_enc {l : List Int} (h : ∀ r ∈ l, scalar r) : dec (enc l) = l := decsL_enc h
theorem enc_dec {s : ByteArray} (h : valid s = true) : enc (dec s) = s := ba_ext (validGo_ex _ _ (Nat.le_refl _) h).2
theorem dec_scalar {s : ByteArray} (h : valid s = true) : ∀ r ∈ dec s, scalar r := (validGo_ex _ _ (Nat.le_refl _) h).1
theorem enc_append (a b : List Int) : enc (a ++ b) = enc a ++ enc b := ba_ext (by simp [enc, encsL_append])
theorem enc_nil : enc [] = ⟨#[]⟩ := rfl
theorem dec_empty : dec ⟨#[]⟩ = [] := rfl
theorem valid_empty : valid ⟨#[]⟩ = true := rfl
theorem enc_inj {a b : List Int} (ha : ∀ r ∈ a, scalar r) (hb : ∀ r ∈ b, scalar r) (h : enc a = enc b) : a = b := by rw [← dec_enc ha, ← dec_enc hb, h]
theorem dec_inj {s t : ByteArray} (hs : valid s = true) (ht : valid t = true) (h : dec s = dec t) : s = t := by rw [← enc_dec hs, ← enc_dec ht, h]
theorem valid_append {s t : ByteArray} (hs : valid s = true) (ht : valid t = true) : valid (s ++ t) = true := by
  rw [← enc_dec hs, ← enc_dec ht, ← enc_append]
  exact valid_enc fun r hr => (List.mem_append.1 hr).elim (dec_scalar hs r) (dec_scalar ht r)
theorem dec_append {s t : ByteArray} (hs : valid s = true) (ht : valid t = true) : dec (s ++ t) = dec s ++ dec t := by
  have h : s ++ t = enc (dec s ++ dec t) := by rw [enc_append, enc_dec hs, enc_dec ht]
  rw [h]
  exact dec_enc fun r hr => (List.mem_append.1 hr).elim (dec_scalar hs r) (dec_scalar ht r)
theorem encsL_len (l : List Int) : l.length ≤ (encsL l).length ∧ (encsL l).length ≤ 4 * l.length := by
  induction l with
  | nil => simp [encsL]
  | cons r l ih => have := encL_len r; rw [encsL_cons, List.length_append, List.length_cons]; omega
theorem enc_size (l : List Int) : l.length ≤ (enc l).size ∧ (enc l).size ≤ 4 * l.length := by have := encsL_len l; unfold enc; exact this
theorem decsGo_len : ∀ (n : Nat) (l : List UInt8), (decsGo n l).length ≤ n
  | 0, _ => by simp [decsGo]
  | n + 1, l => by
    unfold decsGo
    split
    · simp
    · have := decsGo_len n (l.drop (decodeL l).2); simp; omega
theorem dec_len (s : ByteArray) : (dec s).length ≤ s.size := by have := decsGo_len s.data.toList.length s.data.toList; unfold dec decsL; rw [Array.length_toList] at this ⊢; exact this
theorem dec_range : ∀ (n : Nat) (l : List UInt8), ∀ r ∈ decsGo n l, 0 ≤ r ∧ r ≤ 1114111
  | 0, _ => by simp [decsGo]
  | n + 1, l => by
    unfold decsGo
    split
    · simp
    · intro r hr
      rcases List.mem_cons.1 hr with rfl | hr
      · have := decodeL_rune l; omega
      · exact dec_range n _ r hr
theorem enc_runesBytes (l : List Int) : runesBytes l = enc l := by
  have h : ∀ (l : List Int) (s : ByteArray), l.foldl (fun r n => r ++ Utf8.encode n) s = s ++ enc l := by
    intro l
    induction l with
    | nil => intro s; exact ba_ext (by simp [enc, encsL])
    | cons r l ih => intro s; rw [List.foldl_cons, ih]; exact ba_ext (by simp [enc, encsL_cons, encL])
  unfold runesBytes
  rw [h]; exact ba_ext (by simp)
theorem size_len (s : ByteArray) : s.data.toList.length = s.size := Array.length_toList
theorem runesFrom_dec (s : ByteArray) : ∀ (n i : Nat) (acc : Array Value), Conv.runesFrom s n i acc = acc ++ ((decsGo n (s.data.toList.drop i)).map (Value.int .i32)).toArray
  | 0, i, acc => by simp [Conv.runesFrom, decsGo]
  | n + 1, i, acc => by
    unfold Conv.runesFrom decsGo
    have hl := size_len s
    by_cases h : i < s.size
    · have hne : s.data.toList.drop i ≠ [] := by intro e; have := congrArg List.length e; rw [List.length_drop] at this; simp at this; omega
      rw [if_pos h, if_neg hne]
      simp only
      rw [runesFrom_dec s n, ← decodeL_drop, List.drop_drop]
      simp
    · have he : s.data.toList.drop i = [] := List.drop_eq_nil_of_le (by omega)
      rw [if_neg h, if_pos he]; simp
theorem runes_dec (s : ByteArray) : Conv.runesFrom s s.size 0 #[] = ((dec s).map (Value.int .i32)).toArray := by
  rw [runesFrom_dec, List.drop_zero, dec, decsL, size_len]; simp
def rcount (s : ByteArray) : Nat := Lib.runeCount s
theorem rcountFrom_dec (s : ByteArray) : ∀ (n i : Nat), runeCountFrom s n i = (decsGo n (s.data.toList.drop i)).length
  | 0, i => by simp [runeCountFrom, decsGo]
  | n + 1, i => by
    unfold runeCountFrom decsGo
    have hl := size_len s
    by_cases h : i < s.size
    · have hne : s.data.toList.drop i ≠ [] := by intro e; have := congrArg List.length e; rw [List.length_drop] at this; simp at this; omega
      rw [if_pos h, if_neg hne, rcountFrom_dec s n, ← decodeL_drop, List.drop_drop, List.length_cons]
      omega
    · have he : s.data.toList.drop i = [] := List.drop_eq_nil_of_le (by omega)
      rw [if_neg h, if_pos he]; rfl
theorem rcount_dec (s : ByteArray) : rcount s = (dec s).length := by
  unfold rcount runeCount; rw [rcountFrom_dec, List.drop_zero, dec, decsL, size_len]
end Go.SK

set_option linter.unusedVariables false
set_option linter.unusedSimpArgs false
set_option maxRecDepth 100000
namespace Go.SK
open Go Go.RowKit
section
variable {P : Program} {n : Nat} {l : FrL} {S : Nat → Prop} {w0 : World} {L : List Res} {ops : Array Oper} {Q : Exit → Act → World → Prop} {rest : List Oper} {dst : Option Tmp} {ty : TypeId} {pos : String} {af : Array Edge} {gd : Option (Nat × Bool)} {x y : Operand} {d : Nat}
/-- What a call does to the heap's list. -/
def CallX (P : Program) (f : FuncId) (vs : List Value) (S : Nat → Prop) (w0 : World) (L : List Res) (R : Value → List Res → Prop) : Prop :=
  ∀ w, Hp S w0 w L → Calls P f vs.toArray w fun e w' => ∃ v L', e = .returned v ∧ R v L' ∧ Hp S w0 w' L'
theorem OpX.callX {f : FuncId} {as : Array Operand} {ts : Array TypeId} {vs : List Value} {R : Value → List Res → Prop} (he : Enters P f) (has : evOs l as.toList = some vs) (hc : CallX P f vs S w0 L R) : OpX P n l S w0 L ⟨dst, .call { callee := .value (.func f), args := as, argTypes := ts }, ty, pos, af, gd⟩ R := OpX.call he has hc
theorem CallX.mono {f : FuncId} {vs : List Value} {R R' : Value → List Res → Prop} (h : CallX P f vs S w0 L R) (hr : ∀ v L', R v L' → R' v L') : CallX P f vs S w0 L R' := fun w hp => (h w hp).mono fun e w' ⟨v, L', h1, h2, h3⟩ => ⟨v, L', h1, hr v L' h2, h3⟩
/-- A call that keeps all that was there, and gives v. -/
theorem CallX.of_quiet {f : FuncId} {vs : List Value} {v : Value} (h : ∀ w, Hp S w0 w L → Calls P f vs.toArray w fun e w' => e = .returned v ∧ Kp NoB w w') : CallX P f vs S w0 L (fun u L' => u = v ∧ L' = L) := fun w hp => (h w hp).mono fun e w' ⟨h1, h2⟩ => ⟨v, L, h1, ⟨rfl, rfl⟩, hp.quiet h2⟩
/-! ### Conversions -/
theorem OpX.runes {t d' e k bytes : Nat} {z : Value} {s : ByteArray} (hs : P.underlying t = some .string) (hd : TSlice P d' e k bytes z) (he : P.underlying e = some (.int .i32)) (hx : evO l x = some (.string s)) (h46 : (dec s).length ≤ 70368744177664) :
    OpX P n l S w0 L ⟨dst, .convert t d' x, ty, pos, af, gd⟩ (fun v L' => L' = .row v e 1 (dec s).length ((dec s).map (Value.int .i32)) :: L) := .of_run fun a w ha hp => by
  have hr := run_runes_of_string (P := P) w t d' e s hs hd.und he (by rw [runes_dec]; simpa using h46)
  have hcap := grownCap_ge w (dec s).length 0 e
  rw [runes_dec] at hr
  simp only [List.size_toArray, List.length_map] at hr
  refine ⟨.slice (some ⟨w.heap.size, 0, none⟩) (dec s).length (grownCap w (dec s).length 0 e), w.drew.alloc (.cells (((dec s).map (Value.int .i32)).toArray ++ Array.replicate (grownCap w (dec s).length 0 e - (dec s).length) (.int .i32 0)) e), _, ?_, rfl, hp.new ((Kp.drew w).trans (Kp.alloc w.drew _)) ?_ (fun g hg => ?_)⟩
  · simp only [execOp, ha.eval hx, Sem.run_bind, hr, Result.andThen_ok, Sem.run_pure]
  · refine ⟨by simp, .inr ⟨w.heap.size, _, _, rfl, Nat.zero_le _, heap_alloc_new w.drew _, hcap, grownCap_le_maxLen w _ 0 e (by simp only [maxLen]; omega), ?_, ?_⟩⟩
    · simp; omega
    · simp
  · simp only [Res.keys, Value.ownBlock, Option.some.injEq] at hg; omega
theorem RdRow.ints {w : World} {v : Value} {m : Nat} {ns : List Int} {kd : IntKind} (h : RdRow w v 1 m (ns.map (Value.int kd))) : ns.length = m := by have := h.1; simpa using this
/-- string(x), x a slice of runes. -/
theorem op_unrunes {t d' e k bytes m : Nat} {z q : Value} {ns : List Int} (hd : TSlice P t e k bytes z) (he : P.underlying e = some (.int .i32)) (hs : P.underlying d' = some .string) (hx : evO l x = some q) (hr : Rdb L q 1 m (ns.map (Value.int .i32))) :
    OpV P n l S w0 L ⟨dst, .convert t d' x, ty, pos, af, gd⟩ (.string (enc ns)) := fun a w ha hp => by
  have hrow := hr S w0 w hp
  have hlen := hrow.ints
  obtain ⟨_, A, c, rfl, hn, hm, hA, hc⟩ := hrow
  have key : (convert t d' (.slice A m c)).run P w = .ok (.string (enc ns)) w := by
    cases A with
    | none =>
      have : m = 0 := by
        rcases Nat.eq_zero_or_pos m with h | h
        · exact h
        · obtain ⟨_, h2⟩ := hA h; cases h2
      subst this
      rw [List.eq_nil_of_length_eq_zero hlen]
      exact run_convert_runes_nil w t d' e 0 c hd.und he hs
    | some ad =>
      have := run_convert_runes (P := P) w t d' e ad m c ns (by omega) hd.und he hs (fun j hj => hc ad rfl j _ (by simp [List.getD_eq_getElem?_getD, List.getElem?_eq_getElem hj]))
      rw [this, enc_runesBytes, List.take_of_length_le (by omega)]
  simp only [execOp, ha.eval hx, Sem.run_bind, key, Result.andThen_ok, Sem.run_pure]
/-- string(c), c a rune. -/
theorem op_unrune {t d' : Nat} {k : IntKind} {c : Int} (ht : (P.underlying t).isSome = true) (hs : P.underlying d' = some .string) (hx : evO l x = some (.int k c)) : OpP P n l ⟨dst, .convert t d' x, ty, pos, af, gd⟩ (.string (Utf8.encode c)) := fun a w ha => by
  simp only [execOp, ha.eval hx, Sem.run_bind, run_convert_int_string w t d' k c ht hs, Result.andThen_ok, Sem.run_pure]
theorem enc_one (c : Int) : Utf8.encode c = enc [c] := ba_ext (by simp [enc, encsL, encL])
/-- []byte(s). -/
theorem OpX.bytes {t d' e k bytes : Nat} {z : Value} {s : ByteArray} (hs : P.underlying t = some .string) (hd : TSlice P d' e k bytes z) (he : P.underlying e = some (.int .u8)) (hx : evO l x = some (.string s)) (hsz : s.size ≤ maxLen) :
    OpX P n l S w0 L ⟨dst, .convert t d' x, ty, pos, af, gd⟩ (fun v L' => L' = .rd v 1 s.size (s.data.toList.map fun b => Value.int .u8 b.toNat) :: L) := .of_run fun a w ha hp => by
  have hr := run_bytes_of_string (P := P) w t d' e s hs hd.und he
  have hcap := grownCap_ge w s.size 0 e
  refine ⟨_, w.drew.alloc (.cells (bytesRow s (grownCap w s.size 0 e)) e ((bytesRow s (grownCap w s.size 0 e)).size, (bytesRow s (grownCap w s.size 0 e)).size + 1)), .rd (.slice (some ⟨w.heap.size, 0, none⟩) s.size (grownCap w s.size 0 e)) 1 s.size (s.data.toList.map fun b => Value.int .u8 b.toNat) :: L, ?_, rfl, hp.new ((Kp.drew w).trans (Kp.alloc w.drew _)) ?_ (fun g hg => ?_)⟩
  · simp only [execOp, ha.eval hx, Sem.run_bind, hr, Result.andThen_ok, Sem.run_pure]
  · refine ⟨by rw [List.length_map, size_len, Nat.mul_one], _, _, rfl, hcap, grownCap_le_maxLen w _ 0 e hsz, fun _ => ⟨_, rfl⟩, ?_⟩
    intro ad had j u hu
    cases had
    rw [add_lit, Nat.zero_add]
    have hc := World.cell?_alloc_mark w.drew (bytesRow s (grownCap w s.size 0 e)) e ((bytesRow s (grownCap w s.size 0 e)).size, (bytesRow s (grownCap w s.size 0 e)).size + 1) j
    refine hc.trans ?_
    have hj : j < s.data.size := by have := (List.getElem?_eq_some_iff.1 hu).1; simpa using this
    rw [bytesRow_at s _ j hj, ← hu, List.getElem?_map, List.getElem?_eq_getElem (by simpa using hj)]
    simp
  · simp only [Res.keys, Value.ownBlock, Option.some.injEq] at hg; omega
theorem rd_cut {S : Nat → Prop} {w0 w : World} {L : List Res} {v : Value} {k m : Nat} {xs : List Value} (h : Hp S w0 w (.rd v k m xs :: L)) (lo hi : Nat) (h1 : lo ≤ hi) (h2 : hi ≤ m) : Hp S w0 w (.rd (Value.cut v lo hi k) k (hi - lo) ((xs.drop (lo * k)).take ((hi - lo) * k)) :: L) := by
  have hv : RdRow w v k m xs := h.at_ _ (.head _)
  refine h.as (hv.cut lo hi h1 h2) (fun x => x) (fun g hg => ?_)
  obtain ⟨hl, A, c, rfl, _⟩ := hv
  refine ⟨?_, fun e => hg.2 (by rw [e]; simp)⟩
  have := hg.1
  simp only [Value.cut] at this
  split at this
  · cases A <;> exact this
  · cases A with
    | none => simp [Value.ownBlock] at this
    | some ad => simp only [Option.map_some, Value.ownBlock] at this ⊢; rw [← this]; unfold Addr.add; split <;> rfl
/-! ### What the heap's list says of values -/
theorem RdRow.one {w : World} {v : Value} {k m : Nat} {xs : List Value} (h : RdRow w v k m xs) : v.oneCell' = true := by obtain ⟨_, A, c, rfl, _⟩ := h; rfl
theorem row1 {w : World} {v : Value} {e k m : Nat} {xs : List Value} (h : Hp S w0 w (.row v e k m xs :: L)) : v.oneCell' = true := (RdRow.of_own (h.at_ _ (.head _))).one
theorem rd1' {w : World} {v : Value} {k m : Nat} {xs : List Value} (h : Hp S w0 w (.rd v k m xs :: L)) : v.oneCell' = true := RdRow.one (h.at_ _ (.head _))
theorem win1 {w : World} {v : Value} {e k m : Nat} {xs : List Value} (h : Hp S w0 w (.win v e k m xs :: L)) : v.oneCell' = true := (WinRow.rd (h.at_ _ (.head _))).one
theorem Rdb.one {v : Value} {k m : Nat} {xs : List Value} (h : Rdb L v k m xs) {w : World} (hp : Hp S w0 w L) : v.oneCell' = true := (h S w0 w hp).one
theorem Rdb.lenLe {v : Value} {k m : Nat} {xs : List Value} (h : Rdb L v k m xs) {w : World} (hp : Hp S w0 w L) : m ≤ 9223372036854775807 := by obtain ⟨_, A, c, _, h1, h2, _⟩ := h S w0 w hp; simp only [maxLen] at h2; omega
theorem Rdb.len {v : Value} {k m : Nat} {xs : List Value} (h : Rdb L v k m xs) {w : World} (hp : Hp S w0 w L) : xs.length = m * k := (h S w0 w hp).1
theorem TL.know {φ : Prop} (h : ∀ w, Hp S w0 w L → φ) (k : φ → TL P ops Q rest n l S w0 L) : TL P ops Q rest n l S w0 L := fun a w ha hp => k (h w hp) a w ha hp
theorem TC.know {φ : Prop} {c : Code} (h : ∀ w, Hp S w0 w L → φ) (k : φ → TC P c Q n l S w0 L) : TC P c Q n l S w0 L := fun a w ha hp => k (h w hp) a w ha hp
theorem TR.know {φ : Prop} {LS : List Res} {ord : Od} (h : ∀ w, Hp S w0 w L → φ) (k : φ → TR P ops Q LS ord n l S w0 L) : TR P ops Q LS ord n l S w0 L := fun a w ha hp => k (h w hp) a w ha hp
theorem Rdb.ints_take {v : Value} {m : Nat} {ns : List Int} {kd : IntKind} (h : Rdb L v 1 m (ns.map (Value.int kd))) (k : Nat) (hk : k ≤ m) : Rdb L (Value.cut v 0 k 1) 1 k ((ns.take k).map (Value.int kd)) := by
  have := h.cut 0 k (Nat.zero_le _) hk
  simpa using this
theorem Rdb.ints_drop {v : Value} {m : Nat} {ns : List Int} {kd : IntKind} (h : Rdb L v 1 m (ns.map (Value.int kd))) (k : Nat) (hk : k ≤ m) (hm : ns.length = m) : Rdb L (Value.cut v k m 1) 1 (ns.drop k).length ((ns.drop k).map (Value.int kd)) := by
  have := h.cut k m hk (Nat.le_refl _)
  rw [List.length_drop, hm]
  simp only [Nat.mul_one] at this
  rw [List.take_of_length_le (by rw [List.length_drop, List.length_map]; omega), ← List.map_drop] at this
  exact this
theorem rd_drop {v : Value} {ns : List Int} {kd : IntKind} {w : World} (h : Hp S w0 w (.rd v 1 ns.length (ns.map (Value.int kd)) :: L)) (k : Nat) (hk : k ≤ ns.length) : Hp S w0 w (.rd (Value.cut v k ns.length 1) 1 (ns.drop k).length ((ns.drop k).map (Value.int kd)) :: L) := by
  have := rd_cut h k ns.length hk (Nat.le_refl _)
  rw [List.length_drop]
  simp only [Nat.mul_one] at this
  rw [List.take_of_length_le (by rw [List.length_drop, List.length_map]; omega), ← List.map_drop] at this
  exact this
theorem rd_nil {w : World} (e k : Nat) (h : Hp S w0 w L) : Hp S w0 w (.rd (.slice none 0 0) k 0 [] :: L) := row_rd (new_nil e k h)
theorem OpX.make0 {t e k bytes m : Nat} {z : Value} {i : Int} {kl kc : IntKind} (ht : TSlice P t e k bytes z) (hx : evO l x = some (.int kl 0)) (hy : evO l y = some (.int kc i)) (hi : i = (m : Int)) (hb0 : 0 < bytes) (hlen : bytes * m ≤ 281474976710656) :
    OpX P n l S w0 L ⟨dst, .makeSlice t x y, ty, pos, af, gd⟩ (fun v L' => L' = .row v e k 0 [] :: L) := .of_run fun a w ha hp => by
  obtain ⟨i0, hi0, hzz⟩ := Option.map_eq_some_iff.1 ht.info
  simp only [Prod.mk.injEq] at hzz
  obtain ⟨hz0, hz1, hz2⟩ := hzz
  subst hi
  have hm : m ≤ 281474976710656 := Nat.le_trans (Nat.le_mul_of_pos_left _ hb0) hlen
  have hb' : (i0.bytes : Int) * (m : Int) ≤ 281474976710656 := by
    rw [hz2]
    have h : ((bytes * m : Nat) : Int) ≤ 281474976710656 := by omega
    rwa [Int.natCast_mul] at h
  have hr := run_make (P := P) w t e i0 z ht.und hi0 hz0 kl kc 0 m (by omega) (by omega) hb' (by omega)
  simp only [Int.toNat_natCast, Int.toNat_zero] at hr
  refine ⟨_, _, _, ?_, rfl, hp.new (r := .row (.slice (some ⟨w.heap.size, 0, none⟩) 0 m) e k 0 []) (Kp.alloc w (.cells (madeCells z.cells (m * i0.size)) e)) ?_ (fun g hg => ?_)⟩
  · simp [execOp, ha.eval hx, ha.eval hy, hr]
  · exact ⟨by simp, .inr ⟨w.heap.size, m, _, rfl, Nat.zero_le _, heap_alloc_new w _, Nat.zero_le _, by simp only [maxLen]; omega, by rw [size_madeCells, hz1], by simp⟩⟩
  · simp only [Res.keys, Value.ownBlock, Option.some.injEq] at hg; omega
theorem ints_one {kd : IntKind} (ns : List Int) : ∀ u ∈ ns.map (Value.int kd), u.oneCell' = true := by
  intro u hu
  obtain ⟨x, _, rfl⟩ := List.mem_map.1 hu
  rfl
theorem row_len1 {v : Value} {e m : Nat} {ns : List Int} {kd : IntKind} {w : World} (h : Hp S w0 w (.row v e 1 m (ns.map (Value.int kd)) :: L)) : Hp S w0 w (.row v e 1 ns.length (ns.map (Value.int kd)) :: L) := by
  have h1 : w.ownsRow 0 e 1 v m (ns.map (Value.int kd)) := h.at_ _ (.head _)
  have h2 : ns.length = m := by have := h1.1; simpa using this
  rw [h2]; exact h
end
end Go.SK

set_option linter.unusedVariables false
namespace Go.SK
open Go Go.RowKit
theorem Hp.pick10 {S : Nat → Prop} {w0 w : World} {L : List Res} {r0 r1 r2 r3 r4 r5 r6 r7 r8 r9 r10 : Res} (h : Hp S w0 w (r0 :: r1 :: r2 :: r3 :: r4 :: r5 :: r6 :: r7 :: r8 :: r9 :: r10 :: L)) : Hp S w0 w (r10 :: r0 :: r1 :: r2 :: r3 :: r4 :: r5 :: r6 :: r7 :: r8 :: r9 :: L) := h.perm (by
  have h1 : (r10 :: ([r0, r1, r2, r3, r4, r5, r6, r7, r8, r9] ++ L)).Perm ([r0, r1, r2, r3, r4, r5, r6, r7, r8, r9] ++ r10 :: L) := (List.perm_middle).symm
  exact h1.symm)
theorem Hp.drop10 {S : Nat → Prop} {w0 w : World} {L : List Res} {r0 r1 r2 r3 r4 r5 r6 r7 r8 r9 r10 : Res} (h : Hp S w0 w (r0 :: r1 :: r2 :: r3 :: r4 :: r5 :: r6 :: r7 :: r8 :: r9 :: r10 :: L)) : Hp S w0 w (r0 :: r1 :: r2 :: r3 :: r4 :: r5 :: r6 :: r7 :: r8 :: r9 :: L) := h.pick10.tail
theorem Hp.pick11 {S : Nat → Prop} {w0 w : World} {L : List Res} {r0 r1 r2 r3 r4 r5 r6 r7 r8 r9 r10 r11 : Res} (h : Hp S w0 w (r0 :: r1 :: r2 :: r3 :: r4 :: r5 :: r6 :: r7 :: r8 :: r9 :: r10 :: r11 :: L)) : Hp S w0 w (r11 :: r0 :: r1 :: r2 :: r3 :: r4 :: r5 :: r6 :: r7 :: r8 :: r9 :: r10 :: L) := h.perm (by
  have h1 : (r11 :: ([r0, r1, r2, r3, r4, r5, r6, r7, r8, r9, r10] ++ L)).Perm ([r0, r1, r2, r3, r4, r5, r6, r7, r8, r9, r10] ++ r11 :: L) := (List.perm_middle).symm
  exact h1.symm)
theorem Hp.drop11 {S : Nat → Prop} {w0 w : World} {L : List Res} {r0 r1 r2 r3 r4 r5 r6 r7 r8 r9 r10 r11 : Res} (h : Hp S w0 w (r0 :: r1 :: r2 :: r3 :: r4 :: r5 :: r6 :: r7 :: r8 :: r9 :: r10 :: r11 :: L)) : Hp S w0 w (r0 :: r1 :: r2 :: r3 :: r4 :: r5 :: r6 :: r7 :: r8 :: r9 :: r10 :: L) := h.pick11.tail
theorem Hp.pick12 {S : Nat → Prop} {w0 w : World} {L : List Res} {r0 r1 r2 r3 r4 r5 r6 r7 r8 r9 r10 r11 r12 : Res} (h : Hp S w0 w (r0 :: r1 :: r2 :: r3 :: r4 :: r5 :: r6 :: r7 :: r8 :: r9 :: r10 :: r11 :: r12 :: L)) : Hp S w0 w (r12 :: r0 :: r1 :: r2 :: r3 :: r4 :: r5 :: r6 :: r7 :: r8 :: r9 :: r10 :: r11 :: L) := h.perm (by
  have h1 : (r12 :: ([r0, r1, r2, r3, r4, r5, r6, r7, r8, r9, r10, r11] ++ L)).Perm ([r0, r1, r2, r3, r4, r5, r6, r7, r8, r9, r10, r11] ++ r12 :: L) := (List.perm_middle).symm
  exact h1.symm)
theorem Hp.drop12 {S : Nat → Prop} {w0 w : World} {L : List Res} {r0 r1 r2 r3 r4 r5 r6 r7 r8 r9 r10 r11 r12 : Res} (h : Hp S w0 w (r0 :: r1 :: r2 :: r3 :: r4 :: r5 :: r6 :: r7 :: r8 :: r9 :: r10 :: r11 :: r12 :: L)) : Hp S w0 w (r0 :: r1 :: r2 :: r3 :: r4 :: r5 :: r6 :: r7 :: r8 :: r9 :: r10 :: r11 :: L) := h.pick12.tail
theorem Hp.pick13 {S : Nat → Prop} {w0 w : World} {L : List Res} {r0 r1 r2 r3 r4 r5 r6 r7 r8 r9 r10 r11 r12 r13 : Res} (h : Hp S w0 w (r0 :: r1 :: r2 :: r3 :: r4 :: r5 :: r6 :: r7 :: r8 :: r9 :: r10 :: r11 :: r12 :: r13 :: L)) : Hp S w0 w (r13 :: r0 :: r1 :: r2 :: r3 :: r4 :: r5 :: r6 :: r7 :: r8 :: r9 :: r10 :: r11 :: r12 :: L) := h.perm (by
  have h1 : (r13 :: ([r0, r1, r2, r3, r4, r5, r6, r7, r8, r9, r10, r11, r12] ++ L)).Perm ([r0, r1, r2, r3, r4, r5, r6, r7, r8, r9, r10, r11, r12] ++ r13 :: L) := (List.perm_middle).symm
  exact h1.symm)
theorem Hp.drop13 {S : Nat → Prop} {w0 w : World} {L : List Res} {r0 r1 r2 r3 r4 r5 r6 r7 r8 r9 r10 r11 r12 r13 : Res} (h : Hp S w0 w (r0 :: r1 :: r2 :: r3 :: r4 :: r5 :: r6 :: r7 :: r8 :: r9 :: r10 :: r11 :: r12 :: r13 :: L)) : Hp S w0 w (r0 :: r1 :: r2 :: r3 :: r4 :: r5 :: r6 :: r7 :: r8 :: r9 :: r10 :: r11 :: r12 :: L) := h.pick13.tail
theorem Hp.pick14 {S : Nat → Prop} {w0 w : World} {L : List Res} {r0 r1 r2 r3 r4 r5 r6 r7 r8 r9 r10 r11 r12 r13 r14 : Res} (h : Hp S w0 w (r0 :: r1 :: r2 :: r3 :: r4 :: r5 :: r6 :: r7 :: r8 :: r9 :: r10 :: r11 :: r12 :: r13 :: r14 :: L)) : Hp S w0 w (r14 :: r0 :: r1 :: r2 :: r3 :: r4 :: r5 :: r6 :: r7 :: r8 :: r9 :: r10 :: r11 :: r12 :: r13 :: L) := h.perm (by
  have h1 : (r14 :: ([r0, r1, r2, r3, r4, r5, r6, r7, r8, r9, r10, r11, r12, r13] ++ L)).Perm ([r0, r1, r2, r3, r4, r5, r6, r7, r8, r9, r10, r11, r12, r13] ++ r14 :: L) := (List.perm_middle).symm
  exact h1.symm)
theorem Hp.drop14 {S : Nat → Prop} {w0 w : World} {L : List Res} {r0 r1 r2 r3 r4 r5 r6 r7 r8 r9 r10 r11 r12 r13 r14 : Res} (h : Hp S w0 w (r0 :: r1 :: r2 :: r3 :: r4 :: r5 :: r6 :: r7 :: r8 :: r9 :: r10 :: r11 :: r12 :: r13 :: r14 :: L)) : Hp S w0 w (r0 :: r1 :: r2 :: r3 :: r4 :: r5 :: r6 :: r7 :: r8 :: r9 :: r10 :: r11 :: r12 :: r13 :: L) := h.pick14.tail
theorem Hp.pick15 {S : Nat → Prop} {w0 w : World} {L : List Res} {r0 r1 r2 r3 r4 r5 r6 r7 r8 r9 r10 r11 r12 r13 r14 r15 : Res} (h : Hp S w0 w (r0 :: r1 :: r2 :: r3 :: r4 :: r5 :: r6 :: r7 :: r8 :: r9 :: r10 :: r11 :: r12 :: r13 :: r14 :: r15 :: L)) : Hp S w0 w (r15 :: r0 :: r1 :: r2 :: r3 :: r4 :: r5 :: r6 :: r7 :: r8 :: r9 :: r10 :: r11 :: r12 :: r13 :: r14 :: L) := h.perm (by
  have h1 : (r15 :: ([r0, r1, r2, r3, r4, r5, r6, r7, r8, r9, r10, r11, r12, r13, r14] ++ L)).Perm ([r0, r1, r2, r3, r4, r5, r6, r7, r8, r9, r10, r11, r12, r13, r14] ++ r15 :: L) := (List.perm_middle).symm
  exact h1.symm)
theorem Hp.drop15 {S : Nat → Prop} {w0 w : World} {L : List Res} {r0 r1 r2 r3 r4 r5 r6 r7 r8 r9 r10 r11 r12 r13 r14 r15 : Res} (h : Hp S w0 w (r0 :: r1 :: r2 :: r3 :: r4 :: r5 :: r6 :: r7 :: r8 :: r9 :: r10 :: r11 :: r12 :: r13 :: r14 :: r15 :: L)) : Hp S w0 w (r0 :: r1 :: r2 :: r3 :: r4 :: r5 :: r6 :: r7 :: r8 :: r9 :: r10 :: r11 :: r12 :: r13 :: r14 :: L) := h.pick15.tail
theorem Hp.pick16 {S : Nat → Prop} {w0 w : World} {L : List Res} {r0 r1 r2 r3 r4 r5 r6 r7 r8 r9 r10 r11 r12 r13 r14 r15 r16 : Res} (h : Hp S w0 w (r0 :: r1 :: r2 :: r3 :: r4 :: r5 :: r6 :: r7 :: r8 :: r9 :: r10 :: r11 :: r12 :: r13 :: r14 :: r15 :: r16 :: L)) : Hp S w0 w (r16 :: r0 :: r1 :: r2 :: r3 :: r4 :: r5 :: r6 :: r7 :: r8 :: r9 :: r10 :: r11 :: r12 :: r13 :: r14 :: r15 :: L) := h.perm (by
  have h1 : (r16 :: ([r0, r1, r2, r3, r4, r5, r6, r7, r8, r9, r10, r11, r12, r13, r14, r15] ++ L)).Perm ([r0, r1, r2, r3, r4, r5, r6, r7, r8, r9, r10, r11, r12, r13, r14, r15] ++ r16 :: L) := (List.perm_middle).symm
  exact h1.symm)
theorem Hp.drop16 {S : Nat → Prop} {w0 w : World} {L : List Res} {r0 r1 r2 r3 r4 r5 r6 r7 r8 r9 r10 r11 r12 r13 r14 r15 r16 : Res} (h : Hp S w0 w (r0 :: r1 :: r2 :: r3 :: r4 :: r5 :: r6 :: r7 :: r8 :: r9 :: r10 :: r11 :: r12 :: r13 :: r14 :: r15 :: r16 :: L)) : Hp S w0 w (r0 :: r1 :: r2 :: r3 :: r4 :: r5 :: r6 :: r7 :: r8 :: r9 :: r10 :: r11 :: r12 :: r13 :: r14 :: r15 :: L) := h.pick16.tail
theorem Hp.pick17 {S : Nat → Prop} {w0 w : World} {L : List Res} {r0 r1 r2 r3 r4 r5 r6 r7 r8 r9 r10 r11 r12 r13 r14 r15 r16 r17 : Res} (h : Hp S w0 w (r0 :: r1 :: r2 :: r3 :: r4 :: r5 :: r6 :: r7 :: r8 :: r9 :: r10 :: r11 :: r12 :: r13 :: r14 :: r15 :: r16 :: r17 :: L)) : Hp S w0 w (r17 :: r0 :: r1 :: r2 :: r3 :: r4 :: r5 :: r6 :: r7 :: r8 :: r9 :: r10 :: r11 :: r12 :: r13 :: r14 :: r15 :: r16 :: L) := h.perm (by
  have h1 : (r17 :: ([r0, r1, r2, r3, r4, r5, r6, r7, r8, r9, r10, r11, r12, r13, r14, r15, r16] ++ L)).Perm ([r0, r1, r2, r3, r4, r5, r6, r7, r8, r9, r10, r11, r12, r13, r14, r15, r16] ++ r17 :: L) := (List.perm_middle).symm
  exact h1.symm)
theorem Hp.drop17 {S : Nat → Prop} {w0 w : World} {L : List Res} {r0 r1 r2 r3 r4 r5 r6 r7 r8 r9 r10 r11 r12 r13 r14 r15 r16 r17 : Res} (h : Hp S w0 w (r0 :: r1 :: r2 :: r3 :: r4 :: r5 :: r6 :: r7 :: r8 :: r9 :: r10 :: r11 :: r12 :: r13 :: r14 :: r15 :: r16 :: r17 :: L)) : Hp S w0 w (r0 :: r1 :: r2 :: r3 :: r4 :: r5 :: r6 :: r7 :: r8 :: r9 :: r10 :: r11 :: r12 :: r13 :: r14 :: r15 :: r16 :: L) := h.pick17.tail
theorem Hp.pick18 {S : Nat → Prop} {w0 w : World} {L : List Res} {r0 r1 r2 r3 r4 r5 r6 r7 r8 r9 r10 r11 r12 r13 r14 r15 r16 r17 r18 : Res} (h : Hp S w0 w (r0 :: r1 :: r2 :: r3 :: r4 :: r5 :: r6 :: r7 :: r8 :: r9 :: r10 :: r11 :: r12 :: r13 :: r14 :: r15 :: r16 :: r17 :: r18 :: L)) : Hp S w0 w (r18 :: r0 :: r1 :: r2 :: r3 :: r4 :: r5 :: r6 :: r7 :: r8 :: r9 :: r10 :: r11 :: r12 :: r13 :: r14 :: r15 :: r16 :: r17 :: L) := h.perm (by
  have h1 : (r18 :: ([r0, r1, r2, r3, r4, r5, r6, r7, r8, r9, r10, r11, r12, r13, r14, r15, r16, r17] ++ L)).Perm ([r0, r1, r2, r3, r4, r5, r6, r7, r8, r9, r10, r11, r12, r13, r14, r15, r16, r17] ++ r18 :: L) := (List.perm_middle).symm
  exact h1.symm)
theorem Hp.drop18 {S : Nat → Prop} {w0 w : World} {L : List Res} {r0 r1 r2 r3 r4 r5 r6 r7 r8 r9 r10 r11 r12 r13 r14 r15 r16 r17 r18 : Res} (h : Hp S w0 w (r0 :: r1 :: r2 :: r3 :: r4 :: r5 :: r6 :: r7 :: r8 :: r9 :: r10 :: r11 :: r12 :: r13 :: r14 :: r15 :: r16 :: r17 :: r18 :: L)) : Hp S w0 w (r0 :: r1 :: r2 :: r3 :: r4 :: r5 :: r6 :: r7 :: r8 :: r9 :: r10 :: r11 :: r12 :: r13 :: r14 :: r15 :: r16 :: r17 :: L) := h.pick18.tail
theorem m9 {r0 r1 r2 r3 r4 r5 r6 r7 r8 : Res} {r : Res} {L : List Res} : r ∈ r0 :: r1 :: r2 :: r3 :: r4 :: r5 :: r6 :: r7 :: r8 :: r :: L := .tail _ (.tail _ (.tail _ (.tail _ (.tail _ (.tail _ (.tail _ (.tail _ (.tail _ ((.head _))))))))))
theorem rd9 {r0 r1 r2 r3 r4 r5 r6 r7 r8 : Res} {L : List Res} {v : Value} {sz n : Nat} {xs : List Value} : Rdb (r0 :: r1 :: r2 :: r3 :: r4 :: r5 :: r6 :: r7 :: r8 :: Res.rd v sz n xs :: L) v sz n xs := rdb_rd m9
theorem rw9 {r0 r1 r2 r3 r4 r5 r6 r7 r8 : Res} {L : List Res} {v : Value} {e : TypeId} {sz n : Nat} {xs : List Value} : Rdb (r0 :: r1 :: r2 :: r3 :: r4 :: r5 :: r6 :: r7 :: r8 :: Res.row v e sz n xs :: L) v sz n xs := rdb_row m9
theorem wn9 {r0 r1 r2 r3 r4 r5 r6 r7 r8 : Res} {L : List Res} {v : Value} {e : TypeId} {sz n : Nat} {xs : List Value} : Rdb (r0 :: r1 :: r2 :: r3 :: r4 :: r5 :: r6 :: r7 :: r8 :: Res.win v e sz n xs :: L) v sz n xs := rdb_win m9
theorem m10 {r0 r1 r2 r3 r4 r5 r6 r7 r8 r9 : Res} {r : Res} {L : List Res} : r ∈ r0 :: r1 :: r2 :: r3 :: r4 :: r5 :: r6 :: r7 :: r8 :: r9 :: r :: L := .tail _ (.tail _ (.tail _ (.tail _ (.tail _ (.tail _ (.tail _ (.tail _ (.tail _ (.tail _ ((.head _)))))))))))
theorem rd10 {r0 r1 r2 r3 r4 r5 r6 r7 r8 r9 : Res} {L : List Res} {v : Value} {sz n : Nat} {xs : List Value} : Rdb (r0 :: r1 :: r2 :: r3 :: r4 :: r5 :: r6 :: r7 :: r8 :: r9 :: Res.rd v sz n xs :: L) v sz n xs := rdb_rd m10
theorem rw10 {r0 r1 r2 r3 r4 r5 r6 r7 r8 r9 : Res} {L : List Res} {v : Value} {e : TypeId} {sz n : Nat} {xs : List Value} : Rdb (r0 :: r1 :: r2 :: r3 :: r4 :: r5 :: r6 :: r7 :: r8 :: r9 :: Res.row v e sz n xs :: L) v sz n xs := rdb_row m10
theorem wn10 {r0 r1 r2 r3 r4 r5 r6 r7 r8 r9 : Res} {L : List Res} {v : Value} {e : TypeId} {sz n : Nat} {xs : List Value} : Rdb (r0 :: r1 :: r2 :: r3 :: r4 :: r5 :: r6 :: r7 :: r8 :: r9 :: Res.win v e sz n xs :: L) v sz n xs := rdb_win m10
theorem m11 {r0 r1 r2 r3 r4 r5 r6 r7 r8 r9 r10 : Res} {r : Res} {L : List Res} : r ∈ r0 :: r1 :: r2 :: r3 :: r4 :: r5 :: r6 :: r7 :: r8 :: r9 :: r10 :: r :: L := .tail _ (.tail _ (.tail _ (.tail _ (.tail _ (.tail _ (.tail _ (.tail _ (.tail _ (.tail _ (.tail _ ((.head _))))))))))))
theorem rd11 {r0 r1 r2 r3 r4 r5 r6 r7 r8 r9 r10 : Res} {L : List Res} {v : Value} {sz n : Nat} {xs : List Value} : Rdb (r0 :: r1 :: r2 :: r3 :: r4 :: r5 :: r6 :: r7 :: r8 :: r9 :: r10 :: Res.rd v sz n xs :: L) v sz n xs := rdb_rd m11
theorem rw11 {r0 r1 r2 r3 r4 r5 r6 r7 r8 r9 r10 : Res} {L : List Res} {v : Value} {e : TypeId} {sz n : Nat} {xs : List Value} : Rdb (r0 :: r1 :: r2 :: r3 :: r4 :: r5 :: r6 :: r7 :: r8 :: r9 :: r10 :: Res.row v e sz n xs :: L) v sz n xs := rdb_row m11
theorem wn11 {r0 r1 r2 r3 r4 r5 r6 r7 r8 r9 r10 : Res} {L : List Res} {v : Value} {e : TypeId} {sz n : Nat} {xs : List Value} : Rdb (r0 :: r1 :: r2 :: r3 :: r4 :: r5 :: r6 :: r7 :: r8 :: r9 :: r10 :: Res.win v e sz n xs :: L) v sz n xs := rdb_win m11
theorem m12 {r0 r1 r2 r3 r4 r5 r6 r7 r8 r9 r10 r11 : Res} {r : Res} {L : List Res} : r ∈ r0 :: r1 :: r2 :: r3 :: r4 :: r5 :: r6 :: r7 :: r8 :: r9 :: r10 :: r11 :: r :: L := .tail _ (.tail _ (.tail _ (.tail _ (.tail _ (.tail _ (.tail _ (.tail _ (.tail _ (.tail _ (.tail _ (.tail _ ((.head _)))))))))))))
theorem rd12 {r0 r1 r2 r3 r4 r5 r6 r7 r8 r9 r10 r11 : Res} {L : List Res} {v : Value} {sz n : Nat} {xs : List Value} : Rdb (r0 :: r1 :: r2 :: r3 :: r4 :: r5 :: r6 :: r7 :: r8 :: r9 :: r10 :: r11 :: Res.rd v sz n xs :: L) v sz n xs := rdb_rd m12
theorem rw12 {r0 r1 r2 r3 r4 r5 r6 r7 r8 r9 r10 r11 : Res} {L : List Res} {v : Value} {e : TypeId} {sz n : Nat} {xs : List Value} : Rdb (r0 :: r1 :: r2 :: r3 :: r4 :: r5 :: r6 :: r7 :: r8 :: r9 :: r10 :: r11 :: Res.row v e sz n xs :: L) v sz n xs := rdb_row m12
theorem wn12 {r0 r1 r2 r3 r4 r5 r6 r7 r8 r9 r10 r11 : Res} {L : List Res} {v : Value} {e : TypeId} {sz n : Nat} {xs : List Value} : Rdb (r0 :: r1 :: r2 :: r3 :: r4 :: r5 :: r6 :: r7 :: r8 :: r9 :: r10 :: r11 :: Res.win v e sz n xs :: L) v sz n xs := rdb_win m12
theorem m13 {r0 r1 r2 r3 r4 r5 r6 r7 r8 r9 r10 r11 r12 : Res} {r : Res} {L : List Res} : r ∈ r0 :: r1 :: r2 :: r3 :: r4 :: r5 :: r6 :: r7 :: r8 :: r9 :: r10 :: r11 :: r12 :: r :: L := .tail _ (.tail _ (.tail _ (.tail _ (.tail _ (.tail _ (.tail _ (.tail _ (.tail _ (.tail _ (.tail _ (.tail _ (.tail _ ((.head _))))))))))))))
theorem rd13 {r0 r1 r2 r3 r4 r5 r6 r7 r8 r9 r10 r11 r12 : Res} {L : List Res} {v : Value} {sz n : Nat} {xs : List Value} : Rdb (r0 :: r1 :: r2 :: r3 :: r4 :: r5 :: r6 :: r7 :: r8 :: r9 :: r10 :: r11 :: r12 :: Res.rd v sz n xs :: L) v sz n xs := rdb_rd m13
theorem rw13 {r0 r1 r2 r3 r4 r5 r6 r7 r8 r9 r10 r11 r12 : Res} {L : List Res} {v : Value} {e : TypeId} {sz n : Nat} {xs : List Value} : Rdb (r0 :: r1 :: r2 :: r3 :: r4 :: r5 :: r6 :: r7 :: r8 :: r9 :: r10 :: r11 :: r12 :: Res.row v e sz n xs :: L) v sz n xs := rdb_row m13
theorem wn13 {r0 r1 r2 r3 r4 r5 r6 r7 r8 r9 r10 r11 r12 : Res} {L : List Res} {v : Value} {e : TypeId} {sz n : Nat} {xs : List Value} : Rdb (r0 :: r1 :: r2 :: r3 :: r4 :: r5 :: r6 :: r7 :: r8 :: r9 :: r10 :: r11 :: r12 :: Res.win v e sz n xs :: L) v sz n xs := rdb_win m13
theorem m14 {r0 r1 r2 r3 r4 r5 r6 r7 r8 r9 r10 r11 r12 r13 : Res} {r : Res} {L : List Res} : r ∈ r0 :: r1 :: r2 :: r3 :: r4 :: r5 :: r6 :: r7 :: r8 :: r9 :: r10 :: r11 :: r12 :: r13 :: r :: L := .tail _ (.tail _ (.tail _ (.tail _ (.tail _ (.tail _ (.tail _ (.tail _ (.tail _ (.tail _ (.tail _ (.tail _ (.tail _ (.tail _ ((.head _)))))))))))))))
theorem rd14 {r0 r1 r2 r3 r4 r5 r6 r7 r8 r9 r10 r11 r12 r13 : Res} {L : List Res} {v : Value} {sz n : Nat} {xs : List Value} : Rdb (r0 :: r1 :: r2 :: r3 :: r4 :: r5 :: r6 :: r7 :: r8 :: r9 :: r10 :: r11 :: r12 :: r13 :: Res.rd v sz n xs :: L) v sz n xs := rdb_rd m14
theorem rw14 {r0 r1 r2 r3 r4 r5 r6 r7 r8 r9 r10 r11 r12 r13 : Res} {L : List Res} {v : Value} {e : TypeId} {sz n : Nat} {xs : List Value} : Rdb (r0 :: r1 :: r2 :: r3 :: r4 :: r5 :: r6 :: r7 :: r8 :: r9 :: r10 :: r11 :: r12 :: r13 :: Res.row v e sz n xs :: L) v sz n xs := rdb_row m14
theorem wn14 {r0 r1 r2 r3 r4 r5 r6 r7 r8 r9 r10 r11 r12 r13 : Res} {L : List Res} {v : Value} {e : TypeId} {sz n : Nat} {xs : List Value} : Rdb (r0 :: r1 :: r2 :: r3 :: r4 :: r5 :: r6 :: r7 :: r8 :: r9 :: r10 :: r11 :: r12 :: r13 :: Res.win v e sz n xs :: L) v sz n xs := rdb_win m14
theorem m15 {r0 r1 r2 r3 r4 r5 r6 r7 r8 r9 r10 r11 r12 r13 r14 : Res} {r : Res} {L : List Res} : r ∈ r0 :: r1 :: r2 :: r3 :: r4 :: r5 :: r6 :: r7 :: r8 :: r9 :: r10 :: r11 :: r12 :: r13 :: r14 :: r :: L := .tail _ (.tail _ (.tail _ (.tail _ (.tail _ (.tail _ (.tail _ (.tail _ (.tail _ (.tail _ (.tail _ (.tail _ (.tail _ (.tail _ (.tail _ ((.head _))))))))))))))))
theorem rd15 {r0 r1 r2 r3 r4 r5 r6 r7 r8 r9 r10 r11 r12 r13 r14 : Res} {L : List Res} {v : Value} {sz n : Nat} {xs : List Value} : Rdb (r0 :: r1 :: r2 :: r3 :: r4 :: r5 :: r6 :: r7 :: r8 :: r9 :: r10 :: r11 :: r12 :: r13 :: r14 :: Res.rd v sz n xs :: L) v sz n xs := rdb_rd m15
theorem rw15 {r0 r1 r2 r3 r4 r5 r6 r7 r8 r9 r10 r11 r12 r13 r14 : Res} {L : List Res} {v : Value} {e : TypeId} {sz n : Nat} {xs : List Value} : Rdb (r0 :: r1 :: r2 :: r3 :: r4 :: r5 :: r6 :: r7 :: r8 :: r9 :: r10 :: r11 :: r12 :: r13 :: r14 :: Res.row v e sz n xs :: L) v sz n xs := rdb_row m15
theorem wn15 {r0 r1 r2 r3 r4 r5 r6 r7 r8 r9 r10 r11 r12 r13 r14 : Res} {L : List Res} {v : Value} {e : TypeId} {sz n : Nat} {xs : List Value} : Rdb (r0 :: r1 :: r2 :: r3 :: r4 :: r5 :: r6 :: r7 :: r8 :: r9 :: r10 :: r11 :: r12 :: r13 :: r14 :: Res.win v e sz n xs :: L) v sz n xs := rdb_win m15
theorem m16 {r0 r1 r2 r3 r4 r5 r6 r7 r8 r9 r10 r11 r12 r13 r14 r15 : Res} {r : Res} {L : List Res} : r ∈ r0 :: r1 :: r2 :: r3 :: r4 :: r5 :: r6 :: r7 :: r8 :: r9 :: r10 :: r11 :: r12 :: r13 :: r14 :: r15 :: r :: L := .tail _ (.tail _ (.tail _ (.tail _ (.tail _ (.tail _ (.tail _ (.tail _ (.tail _ (.tail _ (.tail _ (.tail _ (.tail _ (.tail _ (.tail _ (.tail _ ((.head _)))))))))))))))))
theorem rd16 {r0 r1 r2 r3 r4 r5 r6 r7 r8 r9 r10 r11 r12 r13 r14 r15 : Res} {L : List Res} {v : Value} {sz n : Nat} {xs : List Value} : Rdb (r0 :: r1 :: r2 :: r3 :: r4 :: r5 :: r6 :: r7 :: r8 :: r9 :: r10 :: r11 :: r12 :: r13 :: r14 :: r15 :: Res.rd v sz n xs :: L) v sz n xs := rdb_rd m16
theorem rw16 {r0 r1 r2 r3 r4 r5 r6 r7 r8 r9 r10 r11 r12 r13 r14 r15 : Res} {L : List Res} {v : Value} {e : TypeId} {sz n : Nat} {xs : List Value} : Rdb (r0 :: r1 :: r2 :: r3 :: r4 :: r5 :: r6 :: r7 :: r8 :: r9 :: r10 :: r11 :: r12 :: r13 :: r14 :: r15 :: Res.row v e sz n xs :: L) v sz n xs := rdb_row m16
theorem wn16 {r0 r1 r2 r3 r4 r5 r6 r7 r8 r9 r10 r11 r12 r13 r14 r15 : Res} {L : List Res} {v : Value} {e : TypeId} {sz n : Nat} {xs : List Value} : Rdb (r0 :: r1 :: r2 :: r3 :: r4 :: r5 :: r6 :: r7 :: r8 :: r9 :: r10 :: r11 :: r12 :: r13 :: r14 :: r15 :: Res.win v e sz n xs :: L) v sz n xs := rdb_win m16
theorem m17 {r0 r1 r2 r3 r4 r5 r6 r7 r8 r9 r10 r11 r12 r13 r14 r15 r16 : Res} {r : Res} {L : List Res} : r ∈ r0 :: r1 :: r2 :: r3 :: r4 :: r5 :: r6 :: r7 :: r8 :: r9 :: r10 :: r11 :: r12 :: r13 :: r14 :: r15 :: r16 :: r :: L := .tail _ (.tail _ (.tail _ (.tail _ (.tail _ (.tail _ (.tail _ (.tail _ (.tail _ (.tail _ (.tail _ (.tail _ (.tail _ (.tail _ (.tail _ (.tail _ (.tail _ ((.head _))))))))))))))))))
theorem rd17 {r0 r1 r2 r3 r4 r5 r6 r7 r8 r9 r10 r11 r12 r13 r14 r15 r16 : Res} {L : List Res} {v : Value} {sz n : Nat} {xs : List Value} : Rdb (r0 :: r1 :: r2 :: r3 :: r4 :: r5 :: r6 :: r7 :: r8 :: r9 :: r10 :: r11 :: r12 :: r13 :: r14 :: r15 :: r16 :: Res.rd v sz n xs :: L) v sz n xs := rdb_rd m17
theorem rw17 {r0 r1 r2 r3 r4 r5 r6 r7 r8 r9 r10 r11 r12 r13 r14 r15 r16 : Res} {L : List Res} {v : Value} {e : TypeId} {sz n : Nat} {xs : List Value} : Rdb (r0 :: r1 :: r2 :: r3 :: r4 :: r5 :: r6 :: r7 :: r8 :: r9 :: r10 :: r11 :: r12 :: r13 :: r14 :: r15 :: r16 :: Res.row v e sz n xs :: L) v sz n xs := rdb_row m17
theorem wn17 {r0 r1 r2 r3 r4 r5 r6 r7 r8 r9 r10 r11 r12 r13 r14 r15 r16 : Res} {L : List Res} {v : Value} {e : TypeId} {sz n : Nat} {xs : List Value} : Rdb (r0 :: r1 :: r2 :: r3 :: r4 :: r5 :: r6 :: r7 :: r8 :: r9 :: r10 :: r11 :: r12 :: r13 :: r14 :: r15 :: r16 :: Res.win v e sz n xs :: L) v sz n xs := rdb_win m17
theorem m18 {r0 r1 r2 r3 r4 r5 r6 r7 r8 r9 r10 r11 r12 r13 r14 r15 r16 r17 : Res} {r : Res} {L : List Res} : r ∈ r0 :: r1 :: r2 :: r3 :: r4 :: r5 :: r6 :: r7 :: r8 :: r9 :: r10 :: r11 :: r12 :: r13 :: r14 :: r15 :: r16 :: r17 :: r :: L := .tail _ (.tail _ (.tail _ (.tail _ (.tail _ (.tail _ (.tail _ (.tail _ (.tail _ (.tail _ (.tail _ (.tail _ (.tail _ (.tail _ (.tail _ (.tail _ (.tail _ (.tail _ ((.head _)))))))))))))))))))
theorem rd18 {r0 r1 r2 r3 r4 r5 r6 r7 r8 r9 r10 r11 r12 r13 r14 r15 r16 r17 : Res} {L : List Res} {v : Value} {sz n : Nat} {xs : List Value} : Rdb (r0 :: r1 :: r2 :: r3 :: r4 :: r5 :: r6 :: r7 :: r8 :: r9 :: r10 :: r11 :: r12 :: r13 :: r14 :: r15 :: r16 :: r17 :: Res.rd v sz n xs :: L) v sz n xs := rdb_rd m18
theorem rw18 {r0 r1 r2 r3 r4 r5 r6 r7 r8 r9 r10 r11 r12 r13 r14 r15 r16 r17 : Res} {L : List Res} {v : Value} {e : TypeId} {sz n : Nat} {xs : List Value} : Rdb (r0 :: r1 :: r2 :: r3 :: r4 :: r5 :: r6 :: r7 :: r8 :: r9 :: r10 :: r11 :: r12 :: r13 :: r14 :: r15 :: r16 :: r17 :: Res.row v e sz n xs :: L) v sz n xs := rdb_row m18
theorem wn18 {r0 r1 r2 r3 r4 r5 r6 r7 r8 r9 r10 r11 r12 r13 r14 r15 r16 r17 : Res} {L : List Res} {v : Value} {e : TypeId} {sz n : Nat} {xs : List Value} : Rdb (r0 :: r1 :: r2 :: r3 :: r4 :: r5 :: r6 :: r7 :: r8 :: r9 :: r10 :: r11 :: r12 :: r13 :: r14 :: r15 :: r16 :: r17 :: Res.win v e sz n xs :: L) v sz n xs := rdb_win m18
end Go.SK

set_option linter.unusedVariables false
set_option linter.unusedSimpArgs false
set_option maxRecDepth 100000
namespace Go.SK
open Go Go.RowKit
theorem validGo_fuel : ∀ (n m : Nat) (l : List UInt8), l.length ≤ n → l.length ≤ m → Lib.validGoD n l = Lib.validGoD m l
  | 0, m, l, h, _ => by
    have : l = [] := List.length_eq_zero_iff.1 (by omega)
    subst this; cases m <;> simp [Lib.validGoD]
  | n + 1, 0, l, _, h => by
    have : l = [] := List.length_eq_zero_iff.1 (by omega)
    subst this; simp [Lib.validGoD]
  | n + 1, m + 1, l, h, h' => by
    unfold Lib.validGoD
    split
    · rfl
    · split
      · rfl
      · have := Lib.decodeL_width l
        exact validGo_fuel n m _ (by rw [List.length_drop]; omega) (by rw [List.length_drop]; omega)
theorem decsGo_fuel : ∀ (n m : Nat) (l : List UInt8), l.length ≤ n → l.length ≤ m → decsGo n l = decsGo m l
  | 0, m, l, h, _ => by
    have : l = [] := List.length_eq_zero_iff.1 (by omega)
    subst this; cases m <;> simp [decsGo]
  | n + 1, 0, l, _, h => by
    have : l = [] := List.length_eq_zero_iff.1 (by omega)
    subst this; simp [decsGo]
  | n + 1, m + 1, l, h, h' => by
    unfold decsGo
    split
    · rfl
    · have := Lib.decodeL_width l
      rw [decsGo_fuel n m _ (by rw [List.length_drop]; omega) (by rw [List.length_drop]; omega)]
theorem decsL_step {l : List UInt8} (h : l ≠ []) : decsL l = ((Lib.decodeL l).1 : Int) :: decsL (l.drop (Lib.decodeL l).2) := by
  obtain ⟨b, t, rfl⟩ := List.exists_cons_of_ne_nil h
  have hw := Lib.decodeL_width (b :: t)
  unfold decsL
  rw [List.length_cons, decsGo, if_neg h]
  congr 1
  exact decsGo_fuel _ _ _ (by rw [List.length_drop, List.length_cons]; omega) (Nat.le_refl _)
theorem validD_step {l : List UInt8} (h : l ≠ []) : Lib.validD l = if (Lib.decodeL l).1 = 65533 ∧ (Lib.decodeL l).2 = 1 then false else Lib.validD (l.drop (Lib.decodeL l).2) := by
  obtain ⟨b, t, rfl⟩ := List.exists_cons_of_ne_nil h
  have hw := Lib.decodeL_width (b :: t)
  unfold Lib.validD
  rw [List.length_cons, Lib.validGoD, if_neg h]
  split
  · rfl
  · exact validGo_fuel _ _ _ (by rw [List.length_drop, List.length_cons]; omega) (Nat.le_refl _)
/-- The code points of a string from a place on. -/
def decFrom (s : ByteArray) (pos : Nat) : List Int := decsL (s.data.toList.drop pos)
theorem decFrom_zero (s : ByteArray) : decFrom s 0 = dec s := by unfold decFrom dec; rw [List.drop_zero]
theorem decFrom_step {s : ByteArray} {pos : Nat} (h : pos < s.size) : decFrom s pos = ((Utf8.decode s pos).1 : Int) :: decFrom s (pos + (Utf8.decode s pos).2) := by
  have hl := size_len s
  have hne : s.data.toList.drop pos ≠ [] := by intro e; have := congrArg List.length e; rw [List.length_drop, List.length_nil] at this; omega
  unfold decFrom
  rw [decsL_step hne, Lib.decodeL_drop, List.drop_drop]
theorem decFrom_end {s : ByteArray} {pos : Nat} (h : ¬ pos < s.size) : decFrom s pos = [] := by
  have hl := size_len s
  unfold decFrom
  rw [List.drop_eq_nil_of_le (by omega)]; rfl
section
variable {P : Program} {n : Nat} {l : FrL} {S : Nat → Prop} {w0 : World} {L : List Res} {dst : Option Tmp} {ty : TypeId} {pos' : String} {af : Array Edge} {gd : Option (Nat × Bool)} {x : Operand}
theorem OpX.range {t : TypeId} {s : ByteArray} (ht : P.underlying t = some .string) (hx : evO l x = some (.string s)) :
    OpX P n l S w0 L ⟨dst, .range t x, ty, pos', af, gd⟩ (fun v L' => ∃ g, v = .pointer (some ⟨g, 0, none⟩) ∧ L' = .blk g (.stringIter s 0) :: L) := .of_run fun a w ha hp => by
  refine ⟨_, w.iter s 0, _, ?_, ⟨w.heap.size, rfl, rfl⟩, hp.new (Kp.iter w s 0) (World.iter_heap w s 0) (fun g hg => by cases hg; exact Nat.le_refl _)⟩
  simp [execOp, ha.eval hx, run_range_string w t s ht]
theorem OpX.next {g : Nat} {s : ByteArray} {pos : Nat} (hx : evO l x = some (.pointer (some ⟨g, 0, none⟩))) :
    OpX P n l S w0 (.blk g (.stringIter s pos) :: L) ⟨dst, .next x true, ty, pos', af, gd⟩ (fun v L' => (pos < s.size ∧ v = .tuple #[.bool true, .int .i64 pos, .int .i32 (Utf8.decode s pos).1] ∧ L' = .blk g (.stringIter s (pos + (Utf8.decode s pos).2)) :: L) ∨
      (¬ pos < s.size ∧ v = .tuple #[.bool false] ∧ L' = .blk g (.stringIter s pos) :: L)) := .of_run fun a w ha hp => by
  have hh : w.heap[g]? = some (.stringIter s pos) := hp.at_ _ (.head _)
  have hg : g < w.heap.size := by
    rcases Nat.lt_or_ge g w.heap.size with h | h
    · exact h
    · rw [Array.getElem?_eq_none h] at hh; cases hh
  by_cases h : pos < s.size
  · refine ⟨_, { w with heap := w.heap.setIfInBounds g (.stringIter s (pos + (Utf8.decode s pos).2)) }, _, ?_, .inl ⟨h, rfl, rfl⟩, hp.upd trivial ⟨rfl, rfl, rfl, by simp, fun k hk hn => ?_⟩ ?_ (fun q hq => .inl hq)⟩
    · simp only [execOp, ha.eval hx, Instr.next, getObj, setObj, Sem.run_bind, Sem.run, hh, Result.andThen, h, if_true]
      simp [goInt]
    · show (w.heap.setIfInBounds g _)[k]? = _
      rw [Array.getElem?_setIfInBounds_ne (fun e => hn e.symm)]
    · show (w.heap.setIfInBounds g _)[g]? = _
      rw [Array.getElem?_setIfInBounds_self_of_lt hg]
  · refine ⟨_, w, _, ?_, .inr ⟨h, rfl, rfl⟩, hp⟩
    simp only [execOp, ha.eval hx, Instr.next, getObj, setObj, Sem.run_bind, Sem.run, hh, Result.andThen, h, if_false]
    simp
end
end Go.SK
