/- Code and plain regions walked over frames of known slots and a heap of what is held; operations that leave the world alone. -/
import Derived.Test.YtgklklmcmdcpgaaDoorK0
set_option linter.unusedVariables false
set_option linter.unusedSimpArgs false
namespace Go.SK
open Go Go.RowKit
abbrev FrL := List (Nat × Value)

/-! ### Judgements -/
def TC (P : Program) (c : Code) (Q : Exit → Act → World → Prop) (n : Nat) (l : FrL) (S : Nat → Prop) (w0 : World) (L : List Res) : Prop := ∀ a w, Has n l a → Hp S w0 w L → c.wp P Q a w
def TL (P : Program) (ops : Array Oper) (Q : Exit → Act → World → Prop) (rest : List Oper) (n : Nat) (l : FrL) (S : Nat → Prop) (w0 : World) (L : List Res) : Prop := ∀ a w, Has n l a → Hp S w0 w L → wpList P ops Q rest a w
def TQ (Q : Exit → Act → World → Prop) (e : Exit) (n : Nat) (l : FrL) (S : Nat → Prop) (w0 : World) (L : List Res) : Prop := ∀ a w, Has n l a → Hp S w0 w L → Q e a w

section
variable {P : Program} {Q : Exit → Act → World → Prop} {n : Nat} {l l' : FrL} {S : Nat → Prop} {w0 : World} {L L' : List Res}

theorem TC.weak {c : Code} (hw : AllIn l l') (h : TC P c Q n l' S w0 L) : TC P c Q n l S w0 L := fun a w ha hp => h a w (ha.weak hw) hp
theorem TQ.weak {e : Exit} (hw : AllIn l l') (h : TQ Q e n l' S w0 L) : TQ Q e n l S w0 L := fun a w ha hp => h a w (ha.weak hw) hp
theorem TC.hp {c : Code} (hw : ∀ w, Hp S w0 w L → Hp S w0 w L') (h : TC P c Q n l S w0 L') : TC P c Q n l S w0 L := fun a w ha hp => h a w ha (hw w hp)
theorem TL.hp {ops : Array Oper} {rest : List Oper} (hw : ∀ w, Hp S w0 w L → Hp S w0 w L') (h : TL P ops Q rest n l S w0 L') : TL P ops Q rest n l S w0 L := fun a w ha hp => h a w ha (hw w hp)
theorem TQ.hp {e : Exit} (hw : ∀ w, Hp S w0 w L → Hp S w0 w L') (h : TQ Q e n l S w0 L') : TQ Q e n l S w0 L := fun a w ha hp => h a w ha (hw w hp)

theorem TC.seq {x y : Code} (h : TC P x (Exit.then (y.wp P Q) Q) n l S w0 L) : TC P (x.seq y) Q n l S w0 L := fun a w ha hp => wp_seq (h a w ha hp)
theorem TC.skip (h : TQ Q .normal n l S w0 L) : TC P .skip Q n l S w0 L := fun a w ha hp => wp_skip (h a w ha hp)
theorem TC.ret (h : TQ Q .ret n l S w0 L) : TC P .ret Q n l S w0 L := fun a w ha hp => wp_ret (h a w ha hp)
theorem TC.exit {id : Nat} (h : TQ Q (.exit id) n l S w0 L) : TC P (.exit id) Q n l S w0 L := fun a w ha hp => wp_exit (h a w ha hp)
theorem TC.block {id : Nat} {c : Code} (h : TC P c (Exit.inBlock id Q) n l S w0 L) : TC P (.block id c) Q n l S w0 L := fun a w ha hp => wp_block (h a w ha hp)
theorem TC.region {id : Nat} {ops : List Oper} (h : TL P ops.toArray Q ops n l S w0 L) : TC P (.region id ops.toArray false) Q n l S w0 L := fun a w ha hp => wp_region_lit (h a w ha hp)
theorem TC.cond {c : Operand} {x y : Code} {b : Bool} (hc : evO l c = some (.bool b)) (ht : b = true → TC P x Q n l S w0 L) (hf : b = false → TC P y Q n l S w0 L) : TC P (.cond c x y) Q n l S w0 L := fun a w ha hp =>
  wp_cond_split (ha.eval hc) (fun h => ht h a w ha hp) (fun h => hf h a w ha hp)
theorem TC.condT {c : Operand} {x y : Code} (hc : evO l c = some (.bool true)) (ht : TC P x Q n l S w0 L) : TC P (.cond c x y) Q n l S w0 L := TC.cond hc (fun _ => ht) (fun h => by cases h)
theorem TC.condF {c : Operand} {x y : Code} (hc : evO l c = some (.bool false)) (hf : TC P y Q n l S w0 L) : TC P (.cond c x y) Q n l S w0 L := TC.cond hc (fun h => by cases h) (fun _ => hf)
/-- A test, both ways; the slot holds what is known then. -/
theorem TC.condD {t : Nat} {x y : Code} {p : Prop} [Decidable p] (hc : evO l (.tmp t) = some (.bool (decide p))) (ht : p → TC P x Q n ((t, .bool true) :: l) S w0 L) (hf : ¬ p → TC P y Q n ((t, .bool false) :: l) S w0 L) : TC P (.cond (.tmp t) x y) Q n l S w0 L := by
  have gs : ∀ (b : Bool) (a : Act), decide p = b → Has n l a → Has n ((t, .bool b) :: l) a := fun b a hb ha => ⟨ha.defers, ha.size, fun s v hv => by
    unfold get at hv
    cases hq : Nat.beq t s with
    | true =>
      rw [hq] at hv
      have := beq_of hq
      subst this
      simp only [cond_true, Option.some.injEq] at hv
      subst hv
      rw [← hb]
      exact ha.slot t _ hc
    | false => rw [hq] at hv; exact ha.slot s v hv⟩
  refine TC.cond hc (fun h a w ha hp => ht (of_decide_eq_true h) a w (gs true a h ha) hp) (fun h a w ha hp => hf (of_decide_eq_false h) a w (gs false a h ha) hp)

theorem TQ.then {c : Code} (h : TC P c Q n l S w0 L) : TQ (Exit.then (c.wp P Q) Q) .normal n l S w0 L := h
theorem TQ.then_ret {K : Act → World → Prop} (h : TQ Q .ret n l S w0 L) : TQ (Exit.then K Q) .ret n l S w0 L := h
theorem TQ.then_exit {K : Act → World → Prop} {id : Nat} (h : TQ Q (.exit id) n l S w0 L) : TQ (Exit.then K Q) (.exit id) n l S w0 L := h
theorem TQ.block_normal {id : Nat} (h : TQ Q .normal n l S w0 L) : TQ (Exit.inBlock id Q) .normal n l S w0 L := h
theorem TQ.block_ret {id : Nat} (h : TQ Q .ret n l S w0 L) : TQ (Exit.inBlock id Q) .ret n l S w0 L := h
theorem TQ.block_hit {id : Nat} (h : TQ Q .normal n l S w0 L) : TQ (Exit.inBlock id Q) (.exit id) n l S w0 L := fun a w ha hp => by
  simp only [Exit.inBlock, if_true]; exact h a w ha hp
theorem TQ.block_miss {id id' : Nat} (hne : Nat.beq id' id = false) (h : TQ Q (.exit id') n l S w0 L) : TQ (Exit.inBlock id Q) (.exit id') n l S w0 L := fun a w ha hp => by
  have : id' ≠ id := fun e => by subst e; simp [Nat.beq_refl] at hne
  simp only [Exit.inBlock, if_neg this]; exact h a w ha hp

/-- A loop: at each head a state i, of which f tells the slots, H the heap, I what is known; m goes down. -/
def LoopEnd {ι : Type} (f : ι → FrL) (H : ι → List Res) (I : ι → Prop) (m : ι → Nat) (i : ι) (n : Nat) (S : Nat → Prop) (w0 : World) (Q : Exit → Act → World → Prop) : Exit → Act → World → Prop :=
  Exit.then (fun a w => ∃ j, I j ∧ m j < m i ∧ Has n (f j) a ∧ Hp S w0 w (H j)) Q
theorem TC.loop {ι : Type} (f : ι → FrL) (H : ι → List Res) (I : ι → Prop) (m : ι → Nat) (i0 : ι) {c : Code} (h0 : I i0) (hl : AllIn l (f i0)) (hL : ∀ w, Hp S w0 w L → Hp S w0 w (H i0))
    (hr : ∀ i, I i → TC P c (LoopEnd f H I m i n S w0 Q) n (f i) S w0 (H i)) : TC P (.loop c) Q n l S w0 L := by
  intro a w ha hp
  have key : ∀ (k : Nat) (i : ι), m i = k → I i → ∀ (a : Act) (w : World), Has n (f i) a → Hp S w0 w (H i) → (Code.loop c).wp P Q a w := by
    intro k
    induction k using Nat.strongRecOn with
    | _ k ih =>
      intro i hk hI a w ha hp
      refine wp_loop (fun a' w' => ∃ j, I j ∧ Has n (f j) a' ∧ Hp S w0 w' (H j) ∧ m j ≤ m i) (fun a' w' => (Classical.epsilon fun (q : Nat) => ∃ j, I j ∧ Has n (f j) a' ∧ Hp S w0 w' (H j) ∧ m j = q ∧ ∀ q', (∃ j', I j' ∧ Has n (f j') a' ∧ Hp S w0 w' (H j') ∧ m j' = q') → q ≤ q')) ⟨i, hI, ha, hp, Nat.le_refl _⟩ ?_
      intro a1 w1 h1
      -- the least measure among the states that fit
      have hex : ∀ (a1 : Act) (w1 : World), (∃ j, I j ∧ Has n (f j) a1 ∧ Hp S w0 w1 (H j)) → ∃ q, (∃ j, I j ∧ Has n (f j) a1 ∧ Hp S w0 w1 (H j) ∧ m j = q ∧ ∀ q', (∃ j', I j' ∧ Has n (f j') a1 ∧ Hp S w0 w1 (H j') ∧ m j' = q') → q ≤ q') := by
        intro a1 w1 ⟨j, hj1, hj2, hj3⟩
        have : ∀ (k : Nat) (j : ι), m j = k → I j → Has n (f j) a1 → Hp S w0 w1 (H j) → ∃ q, (∃ j, I j ∧ Has n (f j) a1 ∧ Hp S w0 w1 (H j) ∧ m j = q ∧ ∀ q', (∃ j', I j' ∧ Has n (f j') a1 ∧ Hp S w0 w1 (H j') ∧ m j' = q') → q ≤ q') := by
          intro k
          induction k using Nat.strongRecOn with
          | _ k ih2 =>
            intro j hk h1 h2 h3
            by_cases hmin : ∀ q', (∃ j', I j' ∧ Has n (f j') a1 ∧ Hp S w0 w1 (H j') ∧ m j' = q') → m j ≤ q'
            · exact ⟨m j, j, h1, h2, h3, rfl, hmin⟩
            · simp only [Classical.not_forall, not_imp] at hmin
              obtain ⟨q', ⟨j', h1', h2', h3', hq'⟩, hlt⟩ := hmin
              exact ih2 q' (by omega) j' hq' h1' h2' h3'
        exact this (m j) j rfl hj1 hj2 hj3
      obtain ⟨j0, hj0, hj1, hj2, hj3⟩ := h1
      have hsp := Classical.epsilon_spec (hex a1 w1 ⟨j0, hj0, hj1, hj2⟩)
      obtain ⟨j, hI1, ha1, hp1, hq, hmin⟩ := hsp
      refine Code.wp_mono ?_ (hr j hI1 a1 w1 ha1 hp1)
      intro e a2 w2 he
      cases e with
      | normal =>
        obtain ⟨j2, g1, g2, g3, g4⟩ := he
        have hsp2 := Classical.epsilon_spec (hex a2 w2 ⟨j2, g1, g3, g4⟩)
        obtain ⟨j3, k1, k2, k3, k4, k5⟩ := hsp2
        have hle := k5 (m j2) ⟨j2, g1, g3, g4, rfl⟩
        have hle1 := hmin (m j0) ⟨j0, hj0, hj1, hj2, rfl⟩
        exact ⟨⟨j2, g1, g3, g4, by omega⟩, by omega⟩
      | _ => exact he
  exact key (m i0) i0 rfl h0 a w (ha.weak hl) (hL w hp)
/-- The end of a round. -/
theorem TQ.round {ι : Type} {f : ι → FrL} {H : ι → List Res} {I : ι → Prop} {m : ι → Nat} {i : ι} (j : ι) (hj : I j) (hm : m j < m i) (hl : AllIn l (f j)) (hL : ∀ w, Hp S w0 w L → Hp S w0 w (H j)) : TQ (LoopEnd f H I m i n S w0 Q) .normal n l S w0 L :=
  fun a w ha hp => ⟨j, hj, hm, ha.weak hl, hL w hp⟩
theorem TQ.loop_ret {ι : Type} {f : ι → FrL} {H : ι → List Res} {I : ι → Prop} {m : ι → Nat} {i : ι} (h : TQ Q .ret n l S w0 L) : TQ (LoopEnd f H I m i n S w0 Q) .ret n l S w0 L := h
theorem TQ.loop_exit {ι : Type} {f : ι → FrL} {H : ι → List Res} {I : ι → Prop} {m : ι → Nat} {i : ι} {id : Nat} (h : TQ Q (.exit id) n l S w0 L) : TQ (LoopEnd f H I m i n S w0 Q) (.exit id) n l S w0 L := h

/-! ### A call's beginning and end -/
theorem calls_start {f : FuncId} {fn : Func} {c : Code} {vs : List Value} {w : World} {R : Ending → World → Prop} (hf : P.funcs[f]? = some fn) (hb : fn.body = some c) (hn : fn.ntmps = n) (hle : Nat.ble vs.length n = true) (H : Hp S w0 w L)
    (h : TC P c (bodyPost P fn R) n (initL 0 vs) S w0 L) : Calls P f vs.toArray w R := by
  refine calls_of_wp hf hb (h _ w ?_ H)
  rw [hn]
  exact Has.init vs n hle
theorem ret0 {fn : Func} {R : Ending → World → Prop} (hr : fn.results = #[]) (h : ∀ w, Hp S w0 w L → R (.returned (.tuple #[])) w) : TQ (bodyPost P fn R) .ret n l S w0 L := fun a w ha hp =>
  bodyPost_ret (results_none hr _ _ _) ha.defers (h w hp)
theorem end0 {fn : Func} {R : Ending → World → Prop} (hr : fn.results = #[]) (h : ∀ w, Hp S w0 w L → R (.returned (.tuple #[])) w) : TQ (bodyPost P fn R) .normal n l S w0 L := fun a w ha hp =>
  bodyPost_end (results_none hr _ _ _) ha.defers (h w hp)
theorem Has.getD {a : Act} (ha : Has n l a) {t : Nat} {v : Value} (h : get l t = some v) : a.tmps.getD t undef = v := by
  rw [Array.getD_eq_getD_getElem?, ha.slot t v h]; rfl
theorem ret1 {fn : Func} {R : Ending → World → Prop} {t : Nat} {v : Value} (hr : fn.results = #[.tmp t]) (ht : get l t = some v) (h : ∀ w, Hp S w0 w L → R (.returned v) w) : TQ (bodyPost P fn R) .ret n l S w0 L := fun a w ha hp =>
  bodyPost_ret (by rw [results_tmp hr, ha.getD ht]) ha.defers (h w hp)
theorem ret2 {fn : Func} {R : Ending → World → Prop} {t u : Nat} {v x : Value} (hr : fn.results = #[.tmp t, .tmp u]) (ht : get l t = some v) (hu : get l u = some x) (h : ∀ w, Hp S w0 w L → R (.returned (.tuple #[v, x])) w) : TQ (bodyPost P fn R) .ret n l S w0 L := fun a w ha hp =>
  bodyPost_ret (by rw [results_tmp2 hr, ha.getD ht, ha.getD hu]) ha.defers (h w hp)
theorem ret3 {fn : Func} {R : Ending → World → Prop} {t u s : Nat} {v x y : Value} (hr : fn.results = #[.tmp t, .tmp u, .tmp s]) (ht : get l t = some v) (hu : get l u = some x) (hs : get l s = some y) (h : ∀ w, Hp S w0 w L → R (.returned (.tuple #[v, x, y])) w) : TQ (bodyPost P fn R) .ret n l S w0 L := fun a w ha hp =>
  bodyPost_ret (by simp [results, hr, ha.slot t _ ht, ha.slot u _ hu, ha.slot s _ hs]) ha.defers (h w hp)
theorem ret4 {fn : Func} {R : Ending → World → Prop} {t u s r : Nat} {v x y z : Value} (hr : fn.results = #[.tmp t, .tmp u, .tmp s, .tmp r]) (ht : get l t = some v) (hu : get l u = some x) (hs : get l s = some y) (hz : get l r = some z) (h : ∀ w, Hp S w0 w L → R (.returned (.tuple #[v, x, y, z])) w) : TQ (bodyPost P fn R) .ret n l S w0 L := fun a w ha hp =>
  bodyPost_ret (by simp [results, hr, ha.slot t _ ht, ha.slot u _ hu, ha.slot s _ hs, ha.slot r _ hz]) ha.defers (h w hp)

/-! ### Operations that leave the world alone -/
def OpP (P : Program) (n : Nat) (l : FrL) (o : Oper) (v : Value) : Prop := ∀ a w, Has n l a → (execOp a.eval o).run P w = .ok (.value v) w
def OpV (P : Program) (n : Nat) (l : FrL) (S : Nat → Prop) (w0 : World) (L : List Res) (o : Oper) (v : Value) : Prop := ∀ a w, Has n l a → Hp S w0 w L → (execOp a.eval o).run P w = .ok (.value v) w
theorem OpP.toV {o : Oper} {v : Value} (h : OpP P n l o v) : OpV P n l S w0 L o v := fun a w ha _ => h a w ha

variable {ops : Array Oper} {rest : List Oper} {d : Nat} {op : Op} {ty : TypeId} {pos : String} {af : Array Edge} {v : Value}
theorem TL.nil (h : TQ Q .normal n l S w0 L) : TL P ops Q [] n l S w0 L := fun a w ha hp => wpList_nil (h a w ha hp)
theorem TL.opV (hlt : Nat.blt d n = true) (ho : OpV P n l S w0 L ⟨some d, op, ty, pos, af, none⟩ v) (h : TL P ops Q rest n ((d, v) :: l) S w0 L) : TL P ops Q (⟨some d, op, ty, pos, af, none⟩ :: rest) n l S w0 L := fun a w ha hp =>
  wpList_plain rfl fun K hK => by
    unfold Oper.wp
    rw [ho a w ha hp, Oper.upon_value]
    exact hK _ _ (h _ w (ha.put hlt v) hp)
theorem TL.opP (hlt : Nat.blt d n = true) (ho : OpP P n l ⟨some d, op, ty, pos, af, none⟩ v) (h : TL P ops Q rest n ((d, v) :: l) S w0 L) : TL P ops Q (⟨some d, op, ty, pos, af, none⟩ :: rest) n l S w0 L := TL.opV hlt ho.toV h

/-- A guarded operation: its guard has come out as wanted. -/
theorem TL.gT {dst : Option Tmp} {j dj : Nat} {b : Bool} (hj : (ops[j]?).bind (·.dst) = some dj) (hv : get l dj = some (.bool b)) (h : TL P ops Q (⟨dst, op, ty, pos, af, none⟩ :: rest) n l S w0 L) : TL P ops Q (⟨dst, op, ty, pos, af, some (j, b)⟩ :: rest) n l S w0 L := fun a w ha hp => by
  have h1 := h a w ha hp
  have hy : yielded ops a.tmps j = some b := by simp [yielded, hj, ha.slot dj _ hv]
  unfold wpList at h1 ⊢
  rw [if_pos (by simp [Region.wanted])] at h1
  rw [if_pos (by simp [Region.wanted, hy])]
  exact h1
theorem TL.gN {j dj : Nat} {b : Bool} {u : Value} (hlt : Nat.blt d n = true) (hj : (ops[j]?).bind (·.dst) = some dj) (hv : get l dj = some u) (hne : u ≠ .bool b) (h : TL P ops Q rest n ((d, undef) :: l) S w0 L) : TL P ops Q (⟨some d, op, ty, pos, af, some (j, b)⟩ :: rest) n l S w0 L := fun a w ha hp => by
  have h1 := h _ w (ha.put hlt undef) hp
  have hy : yielded ops a.tmps j ≠ some b := by
    simp only [yielded, hj, Option.bind_some, ha.slot dj _ hv]
    cases u <;> simp_all
  unfold wpList
  rw [if_neg (by simpa [Region.wanted] using hy)]
  exact h1
theorem TL.gF {j dj : Nat} {b b' : Bool} (hlt : Nat.blt d n = true) (hj : (ops[j]?).bind (·.dst) = some dj) (hv : get l dj = some (.bool b')) (hne : (b' == b) = false) (h : TL P ops Q rest n ((d, undef) :: l) S w0 L) : TL P ops Q (⟨some d, op, ty, pos, af, some (j, b)⟩ :: rest) n l S w0 L :=
  TL.gN hlt hj hv (by intro e; injection e with e; subst e; simp at hne) h
theorem TL.gFt {j dj : Nat} (hlt : Nat.blt d n = true) (hj : (ops[j]?).bind (·.dst) = some dj) (hv : get l dj = some (.bool true)) (h : TL P ops Q rest n ((d, undef) :: l) S w0 L) : TL P ops Q (⟨some d, op, ty, pos, af, some (j, false)⟩ :: rest) n l S w0 L := TL.gF hlt hj hv rfl h
theorem TL.gFf {j dj : Nat} (hlt : Nat.blt d n = true) (hj : (ops[j]?).bind (·.dst) = some dj) (hv : get l dj = some (.bool false)) (h : TL P ops Q rest n ((d, undef) :: l) S w0 L) : TL P ops Q (⟨some d, op, ty, pos, af, some (j, true)⟩ :: rest) n l S w0 L := TL.gF hlt hj hv rfl h
theorem TL.gU {j dj : Nat} {b : Bool} (hlt : Nat.blt d n = true) (hj : (ops[j]?).bind (·.dst) = some dj) (hv : get l dj = some undef) (h : TL P ops Q rest n ((d, undef) :: l) S w0 L) : TL P ops Q (⟨some d, op, ty, pos, af, some (j, b)⟩ :: rest) n l S w0 L :=
  TL.gN hlt hj hv (by intro e; cases e) h
end

/-! ### Facts on types -/
structure TScal (P : Program) (t : TypeId) : Prop where
  agg : ∀ w, (isAgg t).run P w = .ok false w
  size : ∀ w, (sizeOf t).run P w = .ok 1 w
structure TStruct (P : Program) (t k : Nat) : Prop where
  agg : ∀ w, (isAgg t).run P w = .ok true w
  size : ∀ w, (sizeOf t).run P w = .ok k w
structure TSlice (P : Program) (t e k bytes : Nat) (z : Value) : Prop where
  und : P.underlying t = some (.slice e)
  info : (P.info? e).map (fun i => (i.zero, i.size, i.bytes)) = some (some z, k, bytes)
  zc : z.cells.size = k
def TField (P : Program) (T f off : Nat) : Prop := ∀ (ad : Addr) (w : World), (Instr.fieldAt T (.pointer (some ad)) f).run P w = .ok (.pointer (some (ad.add off))) w
def TZero (P : Program) (t : Nat) (z : Value) : Prop := ∀ w, (zeroValue t).run P w = .ok z w
theorem TSlice.sizeE {P : Program} {t e k bytes : Nat} {z : Value} (h : TSlice P t e k bytes z) (w : World) : (sizeOf e).run P w = .ok k w := by
  obtain ⟨i0, hi, hzz⟩ := Option.map_eq_some_iff.1 h.info
  simp only [Prod.mk.injEq] at hzz
  obtain ⟨_, hz1, _⟩ := hzz
  simp [sizeOf, typeInfo, hi, hz1]

theorem add_of_add (a : Addr) (i j : Nat) : (a.add i).add j = a.add (i + j) := by
  unfold Addr.add
  by_cases hi : i = 0 <;> by_cases hj : j = 0 <;> simp [hi, hj, Nat.add_assoc]
theorem add_lit (g i j : Nat) : (⟨g, i, none⟩ : Addr).add j = ⟨g, i + j, none⟩ := by unfold Addr.add; split <;> simp_all
def Value.adr : Value → Addr
  | .slice (some a) _ _ => a
  | _ => default

section
variable {P : Program} {n : Nat} {l : FrL} {S : Nat → Prop} {w0 : World} {L : List Res} {dst : Option Tmp} {ty : TypeId} {pos : String} {af : Array Edge} {gd : Option (Nat × Bool)} {x y c : Operand} {v u : Value}
theorem op_move (hx : evO l x = some v) : OpP P n l ⟨dst, .move x, ty, pos, af, gd⟩ v := fun a w ha => by simp [execOp, ha.eval hx]
theorem op_assign (hx : evO l x = some v) : OpP P n l ⟨dst, .assign x, ty, pos, af, gd⟩ v := fun a w ha => by simp [execOp, ha.eval hx]
theorem op_pickT (hc : evO l c = some (.bool true)) (hx : evO l x = some v) : OpP P n l ⟨dst, .pick c x y, ty, pos, af, gd⟩ v := fun a w ha => by simp [execOp, ha.eval hx, ha.eval hc, asBool]
theorem op_pickF (hc : evO l c = some (.bool false)) (hy : evO l y = some v) : OpP P n l ⟨dst, .pick c x y, ty, pos, af, gd⟩ v := fun a w ha => by simp [execOp, ha.eval hy, ha.eval hc, asBool]
theorem op_not {b b' : Bool} {t : TypeId} (hx : evO l x = some (.bool b)) (hb : (!b) = b') : OpP P n l ⟨dst, .unOp .not t x, ty, pos, af, gd⟩ (.bool b') := fun a w ha => by subst hb; simp [execOp, ha.eval hx, Op.unary]
theorem op_neg {a : Int} {k : IntKind} {t : TypeId} (hx : evO l x = some (.int k a)) : OpP P n l ⟨dst, .unOp .neg t x, ty, pos, af, gd⟩ (.int k (k.wrap (0 - a))) := fun a w ha => by simp [execOp, ha.eval hx, Op.unary, Op.intArith]
theorem i64_id {r : Int} (h1 : -9223372036854775808 ≤ r) (h2 : r ≤ 9223372036854775807) : IntKind.i64.wrap r = r := by
  rw [IntKind.wrap_i64]
  omega
section
variable {k : IntKind} {a b r : Int} {t t' : TypeId}
theorem op_addK (hx : evO l x = some (.int k a)) (hy : evO l y = some (.int k b)) : OpP P n l ⟨dst, .binOp .add t x y t', ty, pos, af, gd⟩ (.int k (k.wrap (a + b))) := fun a w ha => by simp [execOp, ha.eval hx, ha.eval hy, eqGuard, binOp, Op.intArith]
theorem op_subK (hx : evO l x = some (.int k a)) (hy : evO l y = some (.int k b)) : OpP P n l ⟨dst, .binOp .sub t x y t', ty, pos, af, gd⟩ (.int k (k.wrap (a - b))) := fun a w ha => by simp [execOp, ha.eval hx, ha.eval hy, eqGuard, binOp, Op.intArith]
theorem op_mulK (hx : evO l x = some (.int k a)) (hy : evO l y = some (.int k b)) : OpP P n l ⟨dst, .binOp .mul t x y t', ty, pos, af, gd⟩ (.int k (k.wrap (a * b))) := fun a w ha => by simp [execOp, ha.eval hx, ha.eval hy, eqGuard, binOp, Op.intArith]
theorem op_add (hx : evO l x = some (.int .i64 a)) (hy : evO l y = some (.int .i64 b)) (hr : a + b = r) (h1 : -9223372036854775808 ≤ r) (h2 : r ≤ 9223372036854775807) : OpP P n l ⟨dst, .binOp .add t x y t', ty, pos, af, gd⟩ (.int .i64 r) := by
  have := op_addK (P := P) (n := n) (dst := dst) (ty := ty) (pos := pos) (af := af) (gd := gd) (t := t) (t' := t') hx hy
  rw [hr, i64_id h1 h2] at this; exact this
theorem op_sub (hx : evO l x = some (.int .i64 a)) (hy : evO l y = some (.int .i64 b)) (hr : a - b = r) (h1 : -9223372036854775808 ≤ r) (h2 : r ≤ 9223372036854775807) : OpP P n l ⟨dst, .binOp .sub t x y t', ty, pos, af, gd⟩ (.int .i64 r) := by
  have := op_subK (P := P) (n := n) (dst := dst) (ty := ty) (pos := pos) (af := af) (gd := gd) (t := t) (t' := t') hx hy
  rw [hr, i64_id h1 h2] at this; exact this
theorem op_mul (hx : evO l x = some (.int .i64 a)) (hy : evO l y = some (.int .i64 b)) (hr : a * b = r) (h1 : -9223372036854775808 ≤ r) (h2 : r ≤ 9223372036854775807) : OpP P n l ⟨dst, .binOp .mul t x y t', ty, pos, af, gd⟩ (.int .i64 r) := by
  have := op_mulK (P := P) (n := n) (dst := dst) (ty := ty) (pos := pos) (af := af) (gd := gd) (t := t) (t' := t') hx hy
  rw [hr, i64_id h1 h2] at this; exact this
theorem op_eql (hx : evO l x = some (.int k a)) (hy : evO l y = some (.int k b)) : OpP P n l ⟨dst, .binOp .eql t x y t', ty, pos, af, gd⟩ (.bool (decide (a = b))) := fun a w ha => by simp [execOp, ha.eval hx, ha.eval hy, eqGuard, binOp, Op.intCmp]; rfl
theorem op_neq (hx : evO l x = some (.int k a)) (hy : evO l y = some (.int k b)) : OpP P n l ⟨dst, .binOp .neq t x y t', ty, pos, af, gd⟩ (.bool (decide (a ≠ b))) := fun q w ha => by
  have : (a != b) = decide (a ≠ b) := by by_cases h : a = b <;> simp [h]
  simp [execOp, ha.eval hx, ha.eval hy, eqGuard, binOp, Op.intCmp, this]
theorem op_lss (hx : evO l x = some (.int k a)) (hy : evO l y = some (.int k b)) : OpP P n l ⟨dst, .binOp .lss t x y t', ty, pos, af, gd⟩ (.bool (decide (a < b))) := fun a w ha => by simp [execOp, ha.eval hx, ha.eval hy, eqGuard, binOp, Op.intCmp]
theorem op_leq (hx : evO l x = some (.int k a)) (hy : evO l y = some (.int k b)) : OpP P n l ⟨dst, .binOp .leq t x y t', ty, pos, af, gd⟩ (.bool (decide (a ≤ b))) := fun a w ha => by simp [execOp, ha.eval hx, ha.eval hy, eqGuard, binOp, Op.intCmp]
theorem op_gtr (hx : evO l x = some (.int k a)) (hy : evO l y = some (.int k b)) : OpP P n l ⟨dst, .binOp .gtr t x y t', ty, pos, af, gd⟩ (.bool (decide (b < a))) := fun a w ha => by simp [execOp, ha.eval hx, ha.eval hy, eqGuard, binOp, Op.intCmp]
theorem op_geq (hx : evO l x = some (.int k a)) (hy : evO l y = some (.int k b)) : OpP P n l ⟨dst, .binOp .geq t x y t', ty, pos, af, gd⟩ (.bool (decide (b ≤ a))) := fun a w ha => by simp [execOp, ha.eval hx, ha.eval hy, eqGuard, binOp, Op.intCmp]
theorem op_min {as : Array Operand} {ts : Array TypeId} (has : evOs l as.toList = some [.int k a, .int k b]) : OpP P n l ⟨dst, .call { callee := .builtin .min, args := as, argTypes := ts }, ty, pos, af, gd⟩ (.int k (if b < a then b else a)) := fun q w ha => by
  have := ha.evals has
  have h2 : as.map q.eval = #[.int k a, .int k b] := by apply Array.ext'; simpa using this
  simp [execOp, resolve, h2, invoke, builtin, Builtin.min_, Builtin.min2]
theorem op_max {as : Array Operand} {ts : Array TypeId} (has : evOs l as.toList = some [.int k a, .int k b]) : OpP P n l ⟨dst, .call { callee := .builtin .max, args := as, argTypes := ts }, ty, pos, af, gd⟩ (.int k (if b > a then b else a)) := fun q w ha => by
  have := ha.evals has
  have h2 : as.map q.eval = #[.int k a, .int k b] := by apply Array.ext'; simpa using this
  simp [execOp, resolve, h2, invoke, builtin, Builtin.max_, Builtin.max2]
theorem op_int {src d' : TypeId} {k' : IntKind} (hd : P.underlying d' = some (.int k')) (hs : (P.underlying src).isSome = true) (hx : evO l x = some (.int k a)) : OpP P n l ⟨dst, .convert src d' x, ty, pos, af, gd⟩ (.int k' (k'.wrap a)) := fun q w ha => by
  obtain ⟨u, hu⟩ := Option.isSome_iff_exists.1 hs
  simp [execOp, ha.eval hx, convert, run_underlying hu, run_underlying hd, Conv.intToInt]
end
theorem toList_inj (s t : ByteArray) (h : s.toList = t.toList) : s = t := by
  rw [ByteArray.toList_eq, ByteArray.toList_eq] at h
  cases s; cases t
  simp only at h
  congr 1
  exact Array.ext' h
theorem str_eq (s t : ByteArray) : (s.toList == t.toList) = decide (s = t) := by
  by_cases h : s = t
  · subst h; simp
  · have : s.toList ≠ t.toList := fun e => h (toList_inj s t e)
    simp [h, this]
section
variable {s r : ByteArray} {t t' : TypeId}
theorem op_seql (hx : evO l x = some (.string s)) (hy : evO l y = some (.string r)) : OpP P n l ⟨dst, .binOp .eql t x y t', ty, pos, af, gd⟩ (.bool (decide (s = r))) := fun a w ha => by
  simp [execOp, ha.eval hx, ha.eval hy, eqGuard, binOp_string_eql, str_eq]
theorem op_sneq (hx : evO l x = some (.string s)) (hy : evO l y = some (.string r)) : OpP P n l ⟨dst, .binOp .neq t x y t', ty, pos, af, gd⟩ (.bool (decide (s ≠ r))) := fun a w ha => by
  simp [execOp, ha.eval hx, ha.eval hy, eqGuard, binOp_string_neq, str_eq]
theorem op_sadd (hx : evO l x = some (.string s)) (hy : evO l y = some (.string r)) (hs : s.size + r.size ≤ 9223372036854775807) : OpP P n l ⟨dst, .binOp .add t x y t', ty, pos, af, gd⟩ (.string (s ++ r)) := fun a w ha => by
  simp [execOp, ha.eval hx, ha.eval hy, eqGuard, binOp_string_add, run_string_add_sum w s r hs]
theorem op_slen {as : Array Operand} {ts : Array TypeId} (hts : ts[0]? = some t) (ht : P.underlying t = some .string) (has : evOs l as.toList = some [.string s]) : OpP P n l ⟨dst, .call { callee := .builtin .len, args := as, argTypes := ts }, ty, pos, af, gd⟩ (.int .i64 s.size) := fun q w ha => by
  have := ha.evals has
  have h2 : as.map q.eval = #[.string s] := by apply Array.ext'; simpa using this
  simp [execOp, resolve, h2, invoke, builtin, Builtin.len_, hts, run_underlying ht, goInt]
end
theorem op_len {as : Array Operand} {ts : Array TypeId} {t e : TypeId} {A : Option Addr} {k cap : Nat} (hts : ts[0]? = some t) (ht : P.underlying t = some (.slice e)) (has : evOs l as.toList = some [.slice A k cap]) : OpP P n l ⟨dst, .call { callee := .builtin .len, args := as, argTypes := ts }, ty, pos, af, gd⟩ (.int .i64 k) := fun q w ha => by
  have := ha.evals has
  have h2 : as.map q.eval = #[.slice A k cap] := by apply Array.ext'; simpa using this
  simp [execOp, resolve, h2, invoke, builtin, Builtin.len_, hts, run_underlying ht, goInt]
/-- The length of a slice that is held. -/
theorem op_lenV {as : Array Operand} {ts : Array TypeId} {t e : TypeId} {sz k : Nat} {xs : List Value} (hts : ts[0]? = some t) (ht : P.underlying t = some (.slice e)) (has : evOs l as.toList = some [v]) (hr : Rdb L v sz k xs) : OpV P n l S w0 L ⟨dst, .call { callee := .builtin .len, args := as, argTypes := ts }, ty, pos, af, gd⟩ (.int .i64 k) := fun q w ha hp => by
  obtain ⟨_, A, c, rfl, _⟩ := hr S w0 w hp
  exact op_len hts ht has q w ha
theorem op_extract {vs : Array Value} {i : Nat} (hx : evO l x = some (.tuple vs)) (hi : vs[i]? = some v) : OpP P n l ⟨dst, .extract x i, ty, pos, af, gd⟩ v := fun a w ha => by simp [execOp, ha.eval hx, Instr.extract, hi]
theorem op_nilCheck {ad : Addr} (hx : evO l x = some (.pointer (some ad))) : OpP P n l ⟨dst, .nilCheck x, ty, pos, af, gd⟩ (.pointer (some ad)) := fun a w ha => by simp [execOp, ha.eval hx]
theorem op_field {T f off g i : Nat} (hf : TField P T f off) (hx : evO l x = some (.pointer (some ⟨g, i, none⟩))) : OpP P n l ⟨dst, .fieldAddr T x f, ty, pos, af, gd⟩ (.pointer (some ⟨g, i + off, none⟩)) := fun a w ha => by
  simp [execOp, ha.eval hx, hf _ w, add_lit]
theorem op_fieldA {T f off i : Nat} {ad : Addr} (hf : TField P T f off) (hx : evO l x = some (.pointer (some (ad.add i)))) : OpP P n l ⟨dst, .fieldAddr T x f, ty, pos, af, gd⟩ (.pointer (some (ad.add (i + off)))) := fun a w ha => by
  simp [execOp, ha.eval hx, hf (ad.add i) w, add_of_add]
theorem op_index {t e k bytes : Nat} {z : Value} {m : Nat} {xs : List Value} {i : Int} {ki : IntKind} (ht : TSlice P t e k bytes z) (hx : evO l x = some v) (hr : Rdb L v k m xs) (hy : evO l y = some (.int ki i)) (h0 : 0 ≤ i) (h1 : i < m) :
    OpV P n l S w0 L ⟨dst, .indexAddr t x y, ty, pos, af, gd⟩ (.pointer (some ((Value.adr v).add (i.toNat * k)))) := fun a w ha hp => by
  obtain ⟨hl, A, c, rfl, hn, hm, hA, hc⟩ := hr S w0 w hp
  obtain ⟨ad, rfl⟩ := hA (by omega)
  have hs := ht.sizeE w
  simp [execOp, ha.eval hx, ha.eval hy, Instr.indexAt, asIntOf, run_underlying ht.und, h0, h1, hs, Value.adr]
theorem op_sindex {t : TypeId} {s : ByteArray} {i : Int} {ki : IntKind} {b : UInt8} (ht : P.underlying t = some .string) (hx : evO l x = some (.string s)) (hy : evO l y = some (.int ki i)) (h0 : 0 ≤ i) (hb : s[i.toNat]? = some b) : OpP P n l ⟨dst, .index t x y, ty, pos, af, gd⟩ (.int .u8 b.toNat) := fun a w ha => by
  simp [execOp, ha.eval hx, ha.eval hy, Instr.index, asIntOf, run_underlying ht, h0, hb]
/-- A load out of a block that is held. -/
theorem op_load {t g i : Nat} {cs : Array Value} {T : TypeId} {fz : Nat × Nat} (ht : TScal P t) (hx : evO l x = some (.pointer (some ⟨g, i, none⟩))) (hm : Res.blk g (.cells cs T fz) ∈ L) (hi : cs[i]? = some v) : OpV P n l S w0 L ⟨dst, .load t x, ty, pos, af, gd⟩ v := fun a w ha hp => by
  have hh : w.heap[g]? = some (.cells cs T fz) := hp.at_ _ hm
  have hc : w.cell? ⟨g, i, none⟩ = some v := by simp [World.cell?, hh, hi]
  simp [execOp, ha.eval hx, Instr.loadAt, Instr.sureAddr, loadVar, ht.agg w, load, Sem.run, hc]
/-- The whole of a block that is a struct. -/
theorem op_loadS {t k g : Nat} {cs : Array Value} {T : TypeId} {fz : Nat × Nat} (ht : TStruct P t k) (hx : evO l x = some (.pointer (some ⟨g, 0, none⟩))) (hm : Res.blk g (.cells cs T fz) ∈ L) (hi : cs.size = k) : OpV P n l S w0 L ⟨dst, .load t x, ty, pos, af, gd⟩ (.agg cs) := fun a w ha hp => by
  have hh : w.heap[g]? = some (.cells cs T fz) := hp.at_ _ hm
  have hc : ∀ j v, cs.toList[j]? = some v → w.cell? ((⟨g, 0, none⟩ : Addr).add j) = some v := fun j v hv => by
    rw [add_lit]; simp only [Nat.zero_add]
    simp only [World.cell?, hh]
    simpa using hv
  have := run_loadCells_list (P := P) w ⟨g, 0, none⟩ cs.toList hc
  simp only [Array.length_toList, hi] at this
  simp [execOp, ha.eval hx, Instr.loadAt, Instr.sureAddr, loadVar, ht.agg w, ht.size w, this]
/-- A load out of a slice that is held. -/
theorem op_loadR {t i m : Nat} {sz : Nat} {xs : List Value} {q : Value} (ht : TScal P t) (hx : evO l x = some (.pointer (some ((Value.adr q).add i)))) (hr : Rdb L q sz m xs) (hi : xs[i]? = some v) : OpV P n l S w0 L ⟨dst, .load t x, ty, pos, af, gd⟩ v := fun a w ha hp => by
  obtain ⟨hl, A, c, rfl, hn, hm, hA, hc⟩ := hr S w0 w hp
  have hpos : 0 < m := by
    rcases Nat.eq_zero_or_pos m with h | h
    · subst h
      simp only [Nat.zero_mul] at hl
      have := List.eq_nil_of_length_eq_zero hl
      subst this
      simp at hi
    · exact h
  obtain ⟨ad, rfl⟩ := hA hpos
  have h1 := hc ad rfl i v hi
  simp only [Value.adr] at hx
  simp [execOp, ha.eval hx, Instr.loadAt, Instr.sureAddr, loadVar, ht.agg w, load, Sem.run, h1]
theorem op_loadRS {t k i m : Nat} {sz : Nat} {xs cs : List Value} {q : Value} (ht : TStruct P t k) (hx : evO l x = some (.pointer (some ((Value.adr q).add i)))) (hr : Rdb L q sz m xs) (hk : cs.length = k) (hi : (xs.drop i).take k = cs) (hk0 : 0 < k) : OpV P n l S w0 L ⟨dst, .load t x, ty, pos, af, gd⟩ (.agg cs.toArray) := fun a w ha hp => by
  obtain ⟨hl, A, c, rfl, hn, hm, hA, hc⟩ := hr S w0 w hp
  have hj : ∀ j u, cs[j]? = some u → xs[i + j]? = some u := fun j u hu => by
    have hlt := (List.getElem?_eq_some_iff.1 hu).1
    rw [← hi, List.getElem?_take, if_pos (by omega), List.getElem?_drop] at hu
    exact hu
  have hpos : 0 < m := by
    rcases Nat.eq_zero_or_pos m with h | h
    · subst h
      simp only [Nat.zero_mul] at hl
      have := List.eq_nil_of_length_eq_zero hl
      subst this
      simp at hi
      subst hi
      simp at hk
      omega
    · exact h
  obtain ⟨ad, rfl⟩ := hA hpos
  have := run_loadCells_list (P := P) w (ad.add i) cs (fun j u hu => by rw [add_of_add]; exact hc ad rfl _ u (hj j u hu))
  rw [hk] at this
  simp only [Value.adr] at hx
  simp [execOp, ha.eval hx, Instr.loadAt, Instr.sureAddr, loadVar, ht.agg w, ht.size w, this]
/-- A struct put together: the run told by a closed fact. -/
theorem op_build {T : TypeId} {parts : Array (Nat × Operand)} {ps : Array (Nat × Value)} (hp : parts.toList.map (fun p => (p.1, evO l p.2)) = ps.toList.map (fun p => (p.1, some p.2))) (hb : ∀ w, (Instr.build T ps).run P w = .ok v w) : OpP P n l ⟨dst, .build T parts, ty, pos, af, gd⟩ v := fun a w ha => by
  have h1 : parts.map (fun p => (p.1, a.eval p.2)) = ps := by
    apply Array.ext'
    rw [Array.toList_map]
    generalize parts.toList = pl at hp
    generalize ps.toList = ql at hp
    induction pl generalizing ql with
    | nil => cases ql <;> simp_all
    | cons p r ih =>
      cases ql with
      | nil => simp at hp
      | cons q r' =>
        simp only [List.map_cons, List.cons.injEq, Prod.mk.injEq] at hp ⊢
        exact ⟨by rw [ha.eval hp.1.2]; exact Prod.ext hp.1.1 rfl, ih _ hp.2⟩
  have h2 : (parts.map fun (i, x) => (i, a.eval x)) = ps := h1
  simp only [execOp, h2, Sem.run_bind, hb w, Result.andThen_ok, Sem.run_pure]
end
end Go.SK
