/- Operations that make or write memory; calls. -/
import Derived.Test.YtgklklmcmdcpgaaDoorK1
set_option linter.unusedVariables false
set_option linter.unusedSimpArgs false
namespace Go.SK
open Go Go.RowKit

def OpX (P : Program) (n : Nat) (l : FrL) (S : Nat → Prop) (w0 : World) (L : List Res) (o : Oper) (R : Value → List Res → Prop) : Prop :=
  ∀ a w, Has n l a → Hp S w0 w L → ∀ (K : Act → World → Prop) (Q : Exit → Act → World → Prop), (∀ v w' L', R v L' → Hp S w0 w' L' → K (a.put o.dst v) w') → o.wp P a w K Q

section
variable {P : Program} {Q : Exit → Act → World → Prop} {n : Nat} {l l' : FrL} {S : Nat → Prop} {w0 : World} {L L' : List Res} {ops : Array Oper} {rest : List Oper} {d : Nat} {op : Op} {ty : TypeId} {pos : String} {af : Array Edge} {dst : Option Tmp} {gd : Option (Nat × Bool)} {x y c : Operand}

theorem TL.opX {R : Value → List Res → Prop} (hlt : Nat.blt d n = true) (ho : OpX P n l S w0 L ⟨some d, op, ty, pos, af, none⟩ R) (h : ∀ v L', R v L' → TL P ops Q rest n ((d, v) :: l) S w0 L') : TL P ops Q (⟨some d, op, ty, pos, af, none⟩ :: rest) n l S w0 L := fun a w ha hp =>
  wpList_plain rfl fun K hK => ho a w ha hp K Q fun v w' L' hR hp' => hK _ _ (h v L' hR _ w' (ha.put hlt v) hp')
theorem TL.opX0 {R : Value → List Res → Prop} (ho : OpX P n l S w0 L ⟨none, op, ty, pos, af, none⟩ R) (h : ∀ v L', R v L' → TL P ops Q rest n l S w0 L') : TL P ops Q (⟨none, op, ty, pos, af, none⟩ :: rest) n l S w0 L := fun a w ha hp =>
  wpList_plain rfl fun K hK => ho a w ha hp K Q fun v w' L' hR hp' => hK _ _ (h v L' hR _ w' ha hp')
theorem OpX.of_run {o : Oper} {R : Value → List Res → Prop} (h : ∀ a w, Has n l a → Hp S w0 w L → ∃ v w' L', (execOp a.eval o).run P w = .ok (.value v) w' ∧ R v L' ∧ Hp S w0 w' L') : OpX P n l S w0 L o R := fun a w ha hp K Q hK => by
  obtain ⟨v, w', L', hr, hR, hp'⟩ := h a w ha hp
  unfold Oper.wp
  rw [hr, Oper.upon_value]
  exact hK v w' L' hR hp'
theorem OpX.of_skip {o : Oper} {R : Value → List Res → Prop} (h : ∀ a w, Has n l a → Hp S w0 w L → ∃ w' L', (execOp a.eval o).run P w = .ok .skip w' ∧ R undef L' ∧ Hp S w0 w' L') : OpX P n l S w0 L o R := fun a w ha hp K Q hK => by
  obtain ⟨w', L', hr, hR, hp'⟩ := h a w ha hp
  unfold Oper.wp
  rw [hr, Oper.upon_skip]
  exact hK undef w' L' hR hp'
theorem OpV.toX {o : Oper} {v : Value} (h : OpV P n l S w0 L o v) : OpX P n l S w0 L o (fun u L' => u = v ∧ L' = L) := .of_run fun a w ha hp => ⟨v, w, L, h a w ha hp, ⟨rfl, rfl⟩, hp⟩

/-! ### Calls -/
def Enters (P : Program) (f : FuncId) : Prop := ∀ (args : Array Value) (w : World), (callFunc f args).run P w = .ok (.enter f args) w
theorem enters_of {f : FuncId} {fn : Func} (hf : P.funcs[f]? = some fn) (hname : (fn.name == "runtime.NumGoroutine") = false) (hb : fn.body.isSome = true) : Enters P f := fun args w => by
  have h1 : fn.name ≠ "runtime.NumGoroutine" := by simpa using hname
  obtain ⟨c, hc⟩ := Option.isSome_iff_exists.1 hb
  simp [callFunc, hf, h1, hc]
theorem run_call {f : FuncId} {as : Array Operand} {ts : Array TypeId} {vs : List Value} {a : Act} {w : World} (he : Enters P f) (ha : Has n l a) (has : evOs l as.toList = some vs) :
    (execOp a.eval ⟨dst, .call { callee := .value (.func f), args := as, argTypes := ts }, ty, pos, af, gd⟩).run P w = .ok (.enter f vs.toArray) w := by
  have h1 := ha.evals has
  have h2 : as.map a.eval = vs.toArray := by apply Array.ext'; simpa using h1
  unfold execOp
  simp [resolve, Deferred.ofValue, invoke, Act.eval, h2, he vs.toArray w]
theorem OpX.call {f : FuncId} {as : Array Operand} {ts : Array TypeId} {vs : List Value} {R : Value → List Res → Prop} (he : Enters P f) (has : evOs l as.toList = some vs)
    (hc : ∀ w, Hp S w0 w L → Calls P f vs.toArray w fun e w' => ∃ v L', e = .returned v ∧ R v L' ∧ Hp S w0 w' L') : OpX P n l S w0 L ⟨dst, .call { callee := .value (.func f), args := as, argTypes := ts }, ty, pos, af, gd⟩ R := fun a w ha hp K Q hK => by
  unfold Oper.wp
  rw [run_call he ha has, Oper.upon_enter]
  refine (hc w hp).mono fun e w' hh => ?_
  obtain ⟨v, L', rfl, hR, hp'⟩ := hh
  exact hK v w' L' hR hp'
/-- A function that hands back v and keeps all that was there. -/
theorem OpX.callq {f : FuncId} {as : Array Operand} {ts : Array TypeId} {vs : List Value} {v : Value} (he : Enters P f) (has : evOs l as.toList = some vs)
    (hc : ∀ w, Hp S w0 w L → Calls P f vs.toArray w fun e w' => e = .returned v ∧ Kp NoB w w') : OpX P n l S w0 L ⟨dst, .call { callee := .value (.func f), args := as, argTypes := ts }, ty, pos, af, gd⟩ (fun u L' => u = v ∧ L' = L) :=
  OpX.call he has fun w hp => (hc w hp).mono fun e w' ⟨h1, h2⟩ => ⟨v, L, h1, ⟨rfl, rfl⟩, hp.quiet h2⟩
theorem TL.callq {f : FuncId} {as : Array Operand} {ts : Array TypeId} {vs : List Value} {v : Value} (hlt : Nat.blt d n = true) (he : Enters P f) (has : evOs l as.toList = some vs)
    (hc : ∀ w, Hp S w0 w L → Calls P f vs.toArray w fun e w' => e = .returned v ∧ Kp NoB w w') (h : TL P ops Q rest n ((d, v) :: l) S w0 L) : TL P ops Q (⟨some d, .call { callee := .value (.func f), args := as, argTypes := ts }, ty, pos, af, none⟩ :: rest) n l S w0 L :=
  TL.opX hlt (OpX.callq he has hc) (by rintro _ _ ⟨rfl, rfl⟩; exact h)

/-! ### New memory -/
theorem OpX.alloc {e : TypeId} {z : Value} {cs : List Value} (hz : TZero P e z) (hc : z.cells = cs.toArray) : OpX P n l S w0 L ⟨dst, .alloc e, ty, pos, af, gd⟩ (fun v L' => ∃ g, v = .pointer (some ⟨g, 0, none⟩) ∧ L' = .blk g (.cells cs.toArray e (0, 0)) :: L) := .of_run fun a w ha hp => by
  refine ⟨_, w.alloc (.cells cs.toArray e), _, ?_, ⟨w.heap.size, rfl, rfl⟩, hp.new (Kp.alloc w _) (heap_alloc_new w _) (fun g hg => by cases hg; exact Nat.le_refl _)⟩
  simp [execOp, Instr.alloc, hz w, newVar, newRow, hc]
theorem TL.alloc {e : TypeId} {z : Value} {cs : List Value} (hlt : Nat.blt d n = true) (hz : TZero P e z) (hc : z.cells = cs.toArray) (h : ∀ g, TL P ops Q rest n ((d, .pointer (some ⟨g, 0, none⟩)) :: l) S w0 (.blk g (.cells cs.toArray e (0, 0)) :: L)) : TL P ops Q (⟨some d, .alloc e, ty, pos, af, none⟩ :: rest) n l S w0 L :=
  TL.opX hlt (OpX.alloc hz hc) (by rintro _ _ ⟨g, rfl, rfl⟩; exact h g)
theorem OpX.box {e : TypeId} {v : Value} {cs : List Value} (hx : evO l x = some v) (hc : v.cells = cs.toArray) : OpX P n l S w0 L ⟨dst, .box e x, ty, pos, af, gd⟩ (fun v L' => ∃ g, v = .pointer (some ⟨g, 0, none⟩) ∧ L' = .blk g (.cells cs.toArray e (0, 0)) :: L) := .of_run fun a w ha hp => by
  refine ⟨_, w.alloc (.cells cs.toArray e), _, ?_, ⟨w.heap.size, rfl, rfl⟩, hp.new (Kp.alloc w _) (heap_alloc_new w _) (fun g hg => by cases hg; exact Nat.le_refl _)⟩
  simp [execOp, ha.eval hx, Instr.box, newVar, newRow, hc]
theorem TL.box {e : TypeId} {v : Value} {cs : List Value} (hlt : Nat.blt d n = true) (hx : evO l x = some v) (hc : v.cells = cs.toArray) (h : ∀ g, TL P ops Q rest n ((d, .pointer (some ⟨g, 0, none⟩)) :: l) S w0 (.blk g (.cells cs.toArray e (0, 0)) :: L)) : TL P ops Q (⟨some d, .box e x, ty, pos, af, none⟩ :: rest) n l S w0 L :=
  TL.opX hlt (OpX.box hx hc) (by rintro _ _ ⟨g, rfl, rfl⟩; exact h g)
/-- A literal '[]T{..}': the run told by a closed fact. -/
theorem OpX.buildSlice {t e : TypeId} {len : Nat} {parts : Array (Nat × Operand)} {ps : Array (Nat × Value)} {cs : List Value} (hp : parts.toList.map (fun p => (p.1, evO l p.2)) = ps.toList.map (fun p => (p.1, some p.2)))
    (hb : ∀ w : World, (Instr.buildSlice t len ps).run P w = .ok (.slice (some ⟨w.heap.size, 0, none⟩) len len) (w.alloc (.cells cs.toArray e))) :
    OpX P n l S w0 L ⟨dst, .buildSlice t len parts, ty, pos, af, gd⟩ (fun v L' => ∃ g, v = .slice (some ⟨g, 0, none⟩) len len ∧ L' = .blk g (.cells cs.toArray e (0, 0)) :: L) := .of_run fun a w ha hp' => by
  have h1 : parts.map (fun p => (p.1, a.eval p.2)) = ps := by
    apply Array.ext'
    rw [Array.toList_map]
    generalize parts.toList = pl at hp
    generalize ps.toList = ql at hp
    induction pl generalizing ql with
    | nil => cases ql <;> simp_all
    | cons p r ih =>
      cases ql with
      | nil => simp at hp
      | cons q r' =>
        simp only [List.map_cons, List.cons.injEq, Prod.mk.injEq] at hp ⊢
        exact ⟨by rw [ha.eval hp.1.2]; exact Prod.ext hp.1.1 rfl, ih _ hp.2⟩
  have h2 : (parts.map fun (i, x) => (i, a.eval x)) = ps := h1
  refine ⟨_, w.alloc (.cells cs.toArray e), _, ?_, ⟨w.heap.size, rfl, rfl⟩, hp'.new (Kp.alloc w _) (heap_alloc_new w _) (fun g hg => by cases hg; exact Nat.le_refl _)⟩
  simp only [execOp, h2, Sem.run_bind, hb w, Result.andThen_ok, Sem.run_pure]
theorem TL.buildSlice {t e : TypeId} {len : Nat} {parts : Array (Nat × Operand)} {ps : Array (Nat × Value)} {cs : List Value} (hlt : Nat.blt d n = true) (hp : parts.toList.map (fun p => (p.1, evO l p.2)) = ps.toList.map (fun p => (p.1, some p.2)))
    (hb : ∀ w : World, (Instr.buildSlice t len ps).run P w = .ok (.slice (some ⟨w.heap.size, 0, none⟩) len len) (w.alloc (.cells cs.toArray e)))
    (h : ∀ g, TL P ops Q rest n ((d, .slice (some ⟨g, 0, none⟩) len len) :: l) S w0 (.blk g (.cells cs.toArray e (0, 0)) :: L)) : TL P ops Q (⟨some d, .buildSlice t len parts, ty, pos, af, none⟩ :: rest) n l S w0 L :=
  TL.opX hlt (OpX.buildSlice hp hb) (by rintro _ _ ⟨g, rfl, rfl⟩; exact h g)
/-- A block as the row that it is. -/
theorem blk_row {S : Nat → Prop} {w0 w : World} {L : List Res} {g m k e : Nat} {cs : List Value} (h : Hp S w0 w (.blk g (.cells cs.toArray e (0, 0)) :: L)) (hl : cs.length = m * k) (hm : m ≤ maxLen) : Hp S w0 w (.row (.slice (some ⟨g, 0, none⟩) m m) e k m cs :: L) := by
  have hh : w.heap[g]? = some (.cells cs.toArray e (0, 0)) := h.at_ _ (.head _)
  refine h.as ⟨hl, .inr ⟨g, m, cs.toArray, rfl, Nat.zero_le _, hh, Nat.le_refl _, hm, by simpa using hl, ?_⟩⟩ (fun _ => trivial) (fun q hq => ?_)
  · rw [← hl]; simp
  · simp only [Res.keys, Value.ownBlock, Option.some.injEq] at hq
    exact hq.symm
theorem row_rd {S : Nat → Prop} {w0 w : World} {L : List Res} {v : Value} {e k m : Nat} {xs : List Value} (h : Hp S w0 w (.row v e k m xs :: L)) : Hp S w0 w (.rd v k m xs :: L) :=
  h.as (RdRow.of_own (h.at_ _ (.head _))) (fun x => x.elim) (fun g hg => hg.1)
theorem row_win {S : Nat → Prop} {w0 w : World} {L : List Res} {v : Value} {e k m : Nat} {xs : List Value} (h : Hp S w0 w (.row v e k m xs :: L)) : Hp S w0 w (.win v e k m xs :: L) := by
  have ho : w.ownsRow 0 e k v m xs := h.at_ _ (.head _)
  refine h.as ?_ (fun _ => trivial) (fun g hg => hg)
  refine ⟨ho.1, ?_⟩
  rcases ho.2 with ⟨rfl, rfl⟩ | ⟨g, cap, cur, rfl, _, hh, hn, hm, hs, ht⟩
  · exact ⟨none, 0, rfl, Nat.le_refl _, Nat.zero_le _, .inl ⟨rfl, rfl⟩⟩
  · refine ⟨_, cap, rfl, hn, hm, .inr ⟨g, 0, cur, rfl, hh, ?_, by simpa using ht⟩⟩
    rw [hs, Nat.zero_add]; exact Nat.mul_le_mul_right _ hn
theorem new_nil {S : Nat → Prop} {w0 w : World} {L : List Res} (e k : Nat) (h : Hp S w0 w L) : Hp S w0 w (.row (.slice none 0 0) e k 0 [] :: L) :=
  h.new (Kp.refl _ _) (World.ownsRow_nil w 0 e k) (fun g hg => by simp [Res.keys, Value.ownBlock] at hg)

/-! ### Stores -/
def putC : Array Value → Nat → List Value → Array Value
  | cur, _, [] => cur
  | cur, o, v :: r => putC (cur.setIfInBounds o v) (o + 1) r
theorem size_putC : ∀ (vs : List Value) (cur : Array Value) (o : Nat), (putC cur o vs).size = cur.size
  | [], _, _ => rfl
  | v :: r, cur, o => by rw [putC, size_putC r]; simp
theorem putC_get : ∀ (vs : List Value) (cur : Array Value) (o j : Nat), o + vs.length ≤ cur.size → (putC cur o vs)[j]? = if o ≤ j ∧ j < o + vs.length then vs[j - o]? else cur[j]?
  | [], cur, o, j, _ => by rw [if_neg (by simp)]; rfl
  | v :: r, cur, o, j, h => by
    simp only [List.length_cons] at h ⊢
    rw [putC, putC_get r _ _ _ (by simp; omega)]
    by_cases h1 : o + 1 ≤ j ∧ j < o + 1 + r.length
    · rw [if_pos h1, if_pos (by omega), show j - o = (j - (o + 1)) + 1 by omega]; rfl
    · rw [if_neg h1]
      by_cases h2 : j = o
      · subst h2
        rw [if_pos (by omega)]
        simp [show j < cur.size by omega]
      · rw [if_neg (by omega), Array.getElem?_setIfInBounds, if_neg (Ne.symm h2)]
theorem run_storeCells_blk (P : Program) (g e : Nat) : ∀ (vs : List Value) (off i : Nat) (cur : Array Value) (w : World), w.heap[g]? = some (.cells cur e (0, 0)) → off + i + vs.length ≤ cur.size → (∀ v ∈ vs, v.oneCell' = true) →
    ∃ w', (storeCells ⟨g, off, none⟩ vs i).run P w = .ok () w' ∧ w'.heap[g]? = some (.cells (putC cur (off + i) vs) e (0, 0)) ∧ Kp (· = g) w w'
  | [], off, i, cur, w, hw, _, _ => ⟨w, rfl, hw, Kp.refl _ _⟩
  | v :: r, off, i, cur, w, hw, hlen, h1 => by
    simp only [List.length_cons] at hlen
    have hc : w.cell? ((⟨g, off, none⟩ : Addr).add i) = some (cur[off + i]'(by omega)) := by
      rw [add_lit]; simp [World.cell?, hw, show off + i < cur.size by omega]
    have hfz : w.frozen? ((⟨g, off, none⟩ : Addr).add i) = false := by rw [add_lit]; simp [World.frozen?, hw]
    have hset : (w.setCell ((⟨g, off, none⟩ : Addr).add i) v).heap[g]? = some (.cells (cur.setIfInBounds (off + i) v) e (0, 0)) := by
      rw [add_lit]
      have hlt : g < w.heap.size := (Array.getElem?_eq_some_iff.1 hw).1
      simp [World.setCell, Array.getElem?_modify, hw]
    obtain ⟨w', hr, hh, hk⟩ := run_storeCells_blk P g e r off (i + 1) _ _ hset (by simp; omega) (fun u hu => h1 u (.tail _ hu))
    have hst := run_store P w ((⟨g, off, none⟩ : Addr).add i) v .plain (h1 v (.head _))
    refine ⟨w', ?_, by rw [putC]; simpa [Nat.add_assoc] using hh, ?_⟩
    · unfold storeCells
      simp only [Sem.run_bind]
      rw [show store ((⟨g, off, none⟩ : Addr).add i) v = Sem.store .plain ((⟨g, off, none⟩ : Addr).add i) v (.pure ()) from rfl]
      have : (Sem.store .plain ((⟨g, off, none⟩ : Addr).add i) v (.pure ())).run P w = .ok () (w.setCell ((⟨g, off, none⟩ : Addr).add i) v) := by
        have h1v := h1 v (.head _)
        cases v <;> first | (simp [Value.oneCell'] at h1v; done) | simp [Sem.run, hc, hfz]
      rw [this]
      simpa [Result.andThen] using hr
    · have : Kp (· = g) w (w.setCell ((⟨g, off, none⟩ : Addr).add i) v) := by
        have := Kp.setCell w ((⟨g, off, none⟩ : Addr).add i) v
        rw [add_lit] at this ⊢; exact this
      exact this.trans hk

/-- A store into a block that is held: the cells from i on. -/
theorem OpX.storeG {t k g i e : Nat} {cur : Array Value} {v : Value} {ys : List Value} (hs : ∀ w, (sizeOf t).run P w = .ok k w) (hx : evO l x = some (.pointer (some ⟨g, i, none⟩))) (hy : evO l y = some v) (hv : v.cells = ys.toArray) (hk : ys.length = k) (h1 : ∀ u ∈ ys, u.oneCell' = true) (hlen : i + k ≤ cur.size) :
    OpX P n l S w0 (.blk g (.cells cur e (0, 0)) :: L) ⟨none, .store t x y, ty, pos, af, gd⟩ (fun _ L' => L' = .blk g (.cells (putC cur i ys) e (0, 0)) :: L) := .of_skip fun a w ha hp => by
  have hh : w.heap[g]? = some (.cells cur e (0, 0)) := hp.at_ _ (.head _)
  obtain ⟨w', hr, hh', hk'⟩ := run_storeCells_blk P g e ys i 0 cur w hh (by omega) h1
  refine ⟨w', _, ?_, rfl, hp.upd trivial hk' hh' (fun q hq => .inl hq)⟩
  simp [execOp, ha.eval hx, ha.eval hy, Instr.storeAt, Instr.sureAddr, storeVar, hs w, hv, hk, hr]
/-- One field of a struct in a block. -/
theorem OpX.store1 {t g i e : Nat} {cur cur' : List Value} {v : Value} (ht : TScal P t) (hx : evO l x = some (.pointer (some ⟨g, i, none⟩))) (hy : evO l y = some v) (h1 : v.oneCell' = true) (hc : cur.set i v = cur') (hlen : Nat.blt i cur.length = true) :
    OpX P n l S w0 (.blk g (.cells cur.toArray e (0, 0)) :: L) ⟨none, .store t x y, ty, pos, af, gd⟩ (fun _ L' => L' = .blk g (.cells cur'.toArray e (0, 0)) :: L) := by
  have hlt : i < cur.length := by simpa [Nat.blt_eq] using hlen
  have hv : v.cells = [v].toArray := by cases v <;> first | rfl | (simp [Value.oneCell'] at h1; done)
  have := OpX.storeG (P := P) (n := n) (l := l) (S := S) (w0 := w0) (L := L) (ty := ty) (pos := pos) (af := af) (gd := gd) (e := e) (cur := cur.toArray) ht.size hx hy hv rfl (by intro u hu; cases hu with | head => exact h1 | tail _ h => cases h) (by simp; omega)
  have e1 : putC cur.toArray i [v] = cur'.toArray := by subst hc; simp [putC]
  rw [e1] at this
  exact this
/-- A struct, whole, into its block. -/
theorem OpX.storeS {t k g e : Nat} {cur ys : List Value} {v : Value} (ht : TStruct P t k) (hx : evO l x = some (.pointer (some ⟨g, 0, none⟩))) (hy : evO l y = some v) (hv : v.cells = ys.toArray) (hk : ys.length = k) (hc : cur.length = k) (h1 : ∀ u ∈ ys, u.oneCell' = true) :
    OpX P n l S w0 (.blk g (.cells cur.toArray e (0, 0)) :: L) ⟨none, .store t x y, ty, pos, af, gd⟩ (fun _ L' => L' = .blk g (.cells ys.toArray e (0, 0)) :: L) := by
  have := OpX.storeG (P := P) (n := n) (l := l) (S := S) (w0 := w0) (L := L) (ty := ty) (pos := pos) (af := af) (gd := gd) (e := e) (cur := cur.toArray) ht.size hx hy hv hk h1 (by simp; omega)
  have e1 : putC cur.toArray 0 ys = ys.toArray := by
    apply Array.ext_getElem?
    intro j
    rw [putC_get _ _ _ _ (by simp; omega)]
    by_cases hj : j < ys.length
    · rw [if_pos (by omega)]; simp
    · rw [if_neg (by omega), Array.getElem?_eq_none (by simp; omega), Array.getElem?_eq_none (by simp; omega)]
  rw [e1] at this
  exact this
theorem TL.store1 {t g i e : Nat} {cur cur' : List Value} {v : Value} (ht : TScal P t) (hx : evO l x = some (.pointer (some ⟨g, i, none⟩))) (hy : evO l y = some v) (h1 : v.oneCell' = true) (hc : cur.set i v = cur') (hlen : Nat.blt i cur.length = true)
    (h : TL P ops Q rest n l S w0 (.blk g (.cells cur'.toArray e (0, 0)) :: L)) : TL P ops Q (⟨none, .store t x y, ty, pos, af, none⟩ :: rest) n l S w0 (.blk g (.cells cur.toArray e (0, 0)) :: L) := TL.opX0 (OpX.store1 ht hx hy h1 hc hlen) (by rintro _ _ rfl; exact h)
theorem TL.storeS {t k g e : Nat} {cur ys : List Value} {v : Value} (ht : TStruct P t k) (hx : evO l x = some (.pointer (some ⟨g, 0, none⟩))) (hy : evO l y = some v) (hv : v.cells = ys.toArray) (hk : ys.length = k) (hc : cur.length = k) (h1 : ∀ u ∈ ys, u.oneCell' = true)
    (h : TL P ops Q rest n l S w0 (.blk g (.cells ys.toArray e (0, 0)) :: L)) : TL P ops Q (⟨none, .store t x y, ty, pos, af, none⟩ :: rest) n l S w0 (.blk g (.cells cur.toArray e (0, 0)) :: L) := TL.opX0 (OpX.storeS ht hx hy hv hk hc h1) (by rintro _ _ rfl; exact h)

/-- A window is written: its cells from i on. -/
theorem WinRow.put {w : World} {v : Value} {e sz m : Nat} {xs : List Value} (h : WinRow w v e sz m xs) (P : Program) (i : Nat) (ys : List Value) (hlen : i + ys.length ≤ m * sz) (hpos : 0 < ys.length) (h1 : ∀ u ∈ ys, u.oneCell' = true) :
    ∃ w', (storeCells ((Value.adr v).add i) ys).run P w = .ok () w' ∧ WinRow w' v e sz m (xs.take i ++ ys ++ xs.drop (i + ys.length)) ∧ Kp (fun g => v.ownBlock = some g) w w' := by
  obtain ⟨hl, A, c, rfl, h2, h3, h4⟩ := h
  rcases h4 with ⟨rfl, rfl⟩ | ⟨g, off, cur, rfl, hg, hs, ht⟩
  · rw [Nat.zero_mul] at hlen; omega
  · obtain ⟨w', hr, hh, hk⟩ := run_storeCells_blk P g e ys (off + i) 0 cur w hg (by omega) h1
    refine ⟨w', by simpa [Value.adr, add_lit] using hr, ⟨?_, _, c, rfl, h2, h3, .inr ⟨g, off, _, rfl, hh, by rw [size_putC]; exact hs, ?_⟩⟩, hk.mono (fun k hk => by subst hk; rfl)⟩
    · simp only [List.length_append, List.length_take, List.length_drop]; omega
    · apply List.ext_getElem?
      intro j
      by_cases hj : j < m * sz
      · rw [List.getElem?_take, if_pos hj, List.getElem?_drop, Array.getElem?_toList, Nat.add_zero, putC_get _ _ _ _ (by omega)]
        have hx : xs[j]? = cur[off + j]? := by rw [← ht, List.getElem?_take, if_pos hj, List.getElem?_drop, Array.getElem?_toList]
        by_cases h5 : j < i
        · rw [if_neg (by omega), ← hx]
          rw [List.append_assoc, List.getElem?_append_left (by simp; omega), List.getElem?_take, if_pos h5]
        · by_cases h6 : j < i + ys.length
          · rw [if_pos (by omega), List.getElem?_append_left (by simp; omega), List.getElem?_append_right (by simp; omega)]
            congr 1
            simp; omega
          · rw [if_neg (by omega), ← hx, List.getElem?_append_right (by simp; omega), List.getElem?_drop]
            congr 1
            simp; omega
      · rw [List.getElem?_eq_none (by simp; omega), List.getElem?_eq_none (by simp; omega)]
theorem own_put {w : World} {v : Value} {e sz m : Nat} {xs : List Value} (h : w.ownsRow 0 e sz v m xs) (P : Program) (i : Nat) (ys : List Value) (hlen : i + ys.length ≤ m * sz) (hpos : 0 < ys.length) (h1 : ∀ u ∈ ys, u.oneCell' = true) :
    ∃ w', (storeCells ((Value.adr v).add i) ys).run P w = .ok () w' ∧ w'.ownsRow 0 e sz v m (xs.take i ++ ys ++ xs.drop (i + ys.length)) ∧ Kp (fun g => v.ownBlock = some g) w w' := by
  obtain ⟨hl, h2⟩ := h
  rcases h2 with ⟨rfl, rfl⟩ | ⟨g, cap, cur, rfl, hb, hg, hn, hm, hs, ht⟩
  · rw [Nat.zero_mul] at hlen; omega
  · have hle : m * sz ≤ cur.size := by rw [hs]; exact Nat.mul_le_mul_right _ hn
    obtain ⟨w', hr, hh, hk⟩ := run_storeCells_blk P g e ys i 0 cur w hg (by omega) h1
    refine ⟨w', by simpa [Value.adr, add_lit] using hr, ⟨?_, .inr ⟨g, cap, _, rfl, hb, hh, hn, hm, by rw [size_putC]; exact hs, ?_⟩⟩, hk.mono (fun k hk => by subst hk; rfl)⟩
    · simp only [List.length_append, List.length_take, List.length_drop]; omega
    · apply List.ext_getElem?
      intro j
      by_cases hj : j < m * sz
      · rw [List.getElem?_take, if_pos hj, Array.getElem?_toList, Nat.add_zero, putC_get _ _ _ _ (by omega)]
        have hx : xs[j]? = cur[j]? := by rw [← ht, List.getElem?_take, if_pos hj, Array.getElem?_toList]
        by_cases h5 : j < i
        · rw [if_neg (by omega), ← hx]
          rw [List.append_assoc, List.getElem?_append_left (by simp; omega), List.getElem?_take, if_pos h5]
        · by_cases h6 : j < i + ys.length
          · rw [if_pos (by omega), List.getElem?_append_left (by simp; omega), List.getElem?_append_right (by simp; omega)]
            congr 1
            simp; omega
          · rw [if_neg (by omega), ← hx, List.getElem?_append_right (by simp; omega), List.getElem?_drop]
            congr 1
            simp; omega
      · rw [List.getElem?_eq_none (by simp; omega), List.getElem?_eq_none (by simp; omega)]
/-- A store into a row of one's own. -/
theorem OpX.storeRow {t k i e sz m : Nat} {q v : Value} {xs xs' ys : List Value} (hs : ∀ w, (sizeOf t).run P w = .ok k w) (hx : evO l x = some (.pointer (some ((Value.adr q).add i)))) (hy : evO l y = some v) (hv : v.cells = ys.toArray) (hk : ys.length = k) (hk0 : 0 < k) (h1 : ∀ u ∈ ys, u.oneCell' = true) (hlen : i + k ≤ m * sz) (hxs : xs.take i ++ ys ++ xs.drop (i + k) = xs') :
    OpX P n l S w0 (.row q e sz m xs :: L) ⟨none, .store t x y, ty, pos, af, gd⟩ (fun _ L' => L' = .row q e sz m xs' :: L) := .of_skip fun a w ha hp => by
  subst hk
  obtain ⟨w', hr, hh, hk'⟩ := own_put (hp.at_ _ (.head _)) P i ys hlen hk0 h1
  rw [hxs] at hh
  refine ⟨w', _, ?_, rfl, hp.upd trivial hk' hh (fun q hq => .inl hq)⟩
  simp [execOp, ha.eval hx, ha.eval hy, Instr.storeAt, Instr.sureAddr, storeVar, hs w, hv, hr]
theorem OpX.storeWin {t k i e sz m : Nat} {q v : Value} {xs xs' ys : List Value} (hs : ∀ w, (sizeOf t).run P w = .ok k w) (hx : evO l x = some (.pointer (some ((Value.adr q).add i)))) (hy : evO l y = some v) (hv : v.cells = ys.toArray) (hk : ys.length = k) (hk0 : 0 < k) (h1 : ∀ u ∈ ys, u.oneCell' = true) (hlen : i + k ≤ m * sz) (hxs : xs.take i ++ ys ++ xs.drop (i + k) = xs') :
    OpX P n l S w0 (.win q e sz m xs :: L) ⟨none, .store t x y, ty, pos, af, gd⟩ (fun _ L' => L' = .win q e sz m xs' :: L) := .of_skip fun a w ha hp => by
  subst hk
  obtain ⟨w', hr, hh, hk'⟩ := (show WinRow w q e sz m xs from hp.at_ _ (.head _)).put P i ys hlen hk0 h1
  rw [hxs] at hh
  refine ⟨w', _, ?_, rfl, hp.upd trivial hk' hh (fun q hq => .inl hq)⟩
  simp [execOp, ha.eval hx, ha.eval hy, Instr.storeAt, Instr.sureAddr, storeVar, hs w, hv, hr]

/-! ### append, cuts, make -/
theorem run_append_of_nil (P : Program) (w : World) (base : Nat) (t ty e : TypeId) (i : TypeInfo) (size : Nat) (ht : P.underlying t = some (.slice e)) (hi : P.info? e = some i)
    (v : Value) (n : Nat) (xs : List Value) (hown : w.ownsRow base e size v n xs) (c : Nat) : (Builtin.append_ #[t, t] ty #[v, .slice none 0 c]).run P w = .ok v w := by
  rcases hown.2 with ⟨rfl, rfl⟩ | ⟨g, cap, cur, rfl, _, _, hnc, _⟩
  · simp [Builtin.append_, run_underlying ht, sizeOf, typeInfo, hi, Builtin.lenOf, Builtin.firstCells]
  · simp [Builtin.append_, run_underlying ht, sizeOf, typeInfo, hi, Builtin.lenOf, Builtin.firstCells, hnc, storeCells]
/-- append(q, u...): q a row of one's own, at the head; u read. -/
theorem OpX.append {t e k bytes m j : Nat} {z q u : Value} {xs ys zs : List Value} {as : Array Operand} (ht : TSlice P t e k bytes z) (hk0 : 0 < k) (hb0 : 0 < bytes) (has : evOs l as.toList = some [q, u]) (hr : Rdb (.row q e k m xs :: L) u k j ys) (h1 : ∀ u ∈ ys, u.oneCell' = true) (hlen : (m + j) * bytes ≤ 140737488355328) (hz : xs ++ ys = zs) :
    OpX P n l S w0 (.row q e k m xs :: L) ⟨dst, .call { callee := .builtin .append, args := as, argTypes := #[t, t] }, ty, pos, af, gd⟩ (fun v L' => L' = .row v e k (m + j) zs :: L) := .of_run fun a w ha hp => by
  obtain ⟨i0, hi, hzz⟩ := Option.map_eq_some_iff.1 ht.info
  simp only [Prod.mk.injEq] at hzz
  obtain ⟨hz0, hz1, hz2⟩ := hzz
  have hown : w.ownsRow 0 e k q m xs := hp.at_ _ (.head _)
  obtain ⟨hl, A, c, rfl, hc1, hc2, hA, hcell⟩ := hr S w0 w hp
  have hev := ha.evals has
  have h2 : as.map a.eval = #[q, .slice A j c] := by apply Array.ext'; simpa using hev
  have hmj : m + j ≤ 140737488355328 := Nat.le_trans (Nat.le_mul_of_pos_right _ hb0) hlen
  have key : ∃ v' w', (Builtin.append_ #[t, t] ty #[q, .slice A j c]).run P w = .ok v' w' ∧ w'.ownsRow 0 e k v' (m + j) zs ∧ w.grownBy w' q.ownBlock ∧ (v'.ownBlock = q.ownBlock ∨ v'.ownBlock = some w.heap.size) := by
    subst hz
    rcases A with _ | ad
    · have hj : j = 0 := by
        rcases Nat.eq_zero_or_pos j with h0 | h0
        · exact h0
        · obtain ⟨_, h⟩ := hA h0; cases h
      subst hj
      have hn : ys = [] := List.eq_nil_of_length_eq_zero (by simpa using hl)
      subst hn
      exact ⟨q, w, run_append_of_nil P w 0 t ty e i0 k ht.und hi q m xs hown c, by simpa using hown, World.grownBy.refl w _, .inl rfl⟩
    · obtain ⟨v', w', hrun, h3, h4, _, h5⟩ := run_append_own_at (P := P) w 0 t ty e i0 z k bytes ht.und hi hz0 hz1 hz2 ht.zc hk0 q m xs hown ad j c ys hl (fun j' u hu => hcell ad rfl j' u hu) h1 (by simp only [maxLen]; omega) hlen (Nat.zero_le _)
      exact ⟨v', w', hrun, h3, h4, h5⟩
  obtain ⟨v', w', hrun, h3, h4, h5⟩ := key
  refine ⟨v', w', _, ?_, rfl, hp.upd trivial ((Kp.grown h4).mono (fun g hg => hg)) h3 (fun g hg => ?_)⟩
  · simp [execOp, resolve, h2, invoke, builtin, hrun]
  · simp only [Res.keys] at hg ⊢
    rcases h5 with h5 | h5
    · rw [h5] at hg; exact .inl hg
    · rw [h5] at hg; simp only [Option.some.injEq] at hg; exact .inr (by omega)
theorem TL.append {t e k bytes m j : Nat} {z q u : Value} {xs ys zs : List Value} {as : Array Operand} (hlt : Nat.blt d n = true) (ht : TSlice P t e k bytes z) (hk0 : 0 < k) (hb0 : 0 < bytes) (has : evOs l as.toList = some [q, u]) (hr : Rdb (.row q e k m xs :: L) u k j ys) (h1 : ∀ u ∈ ys, u.oneCell' = true) (hlen : (m + j) * bytes ≤ 140737488355328) (hz : xs ++ ys = zs)
    (h : ∀ v, TL P ops Q rest n ((d, v) :: l) S w0 (.row v e k (m + j) zs :: L)) : TL P ops Q (⟨some d, .call { callee := .builtin .append, args := as, argTypes := #[t, t] }, ty, pos, af, none⟩ :: rest) n l S w0 (.row q e k m xs :: L) :=
  TL.opX hlt (OpX.append ht hk0 hb0 has hr h1 hlen hz) (by rintro v _ rfl; exact h v)

/-- v[lo:hi] -/
def Value.cut (v : Value) (lo hi sz : Nat) : Value :=
  match v with
  | .slice a _ c => .slice (if c = lo then a else a.map (·.add (lo * sz))) (hi - lo) (c - lo)
  | v => v
theorem RdRow.cut {w : World} {v : Value} {sz m : Nat} {xs : List Value} (h : RdRow w v sz m xs) (lo hi : Nat) (h1 : lo ≤ hi) (h2 : hi ≤ m) : RdRow w (Value.cut v lo hi sz) sz (hi - lo) ((xs.drop (lo * sz)).take ((hi - lo) * sz)) := by
  obtain ⟨hl, A, c, rfl, h3, h4, hA, hc⟩ := h
  have hle : (hi - lo) * sz + lo * sz ≤ m * sz := by rw [← Nat.add_mul]; exact Nat.mul_le_mul_right _ (by omega)
  refine ⟨by simp only [List.length_take, List.length_drop]; omega, _, _, rfl, by omega, by omega, ?_, ?_⟩
  · intro hpos
    obtain ⟨ad, rfl⟩ := hA (by omega)
    rw [if_neg (by omega)]
    exact ⟨_, rfl⟩
  · intro ad had j u hu
    have hlt := (List.getElem?_eq_some_iff.1 hu).1
    simp only [List.length_take, List.length_drop] at hlt
    rw [List.getElem?_take, if_pos (by omega), List.getElem?_drop] at hu
    have hpos : 0 < hi - lo := by
      rcases Nat.eq_zero_or_pos (hi - lo) with h0 | h0
      · rw [h0, Nat.zero_mul] at hlt; omega
      · exact h0
    obtain ⟨ad0, rfl⟩ := hA (by omega)
    rw [if_neg (by omega)] at had
    simp only [Option.map_some, Option.some.injEq] at had
    subst had
    rw [add_of_add]
    exact hc ad0 rfl _ u hu
theorem Rdb.cut {L : List Res} {v : Value} {sz m : Nat} {xs : List Value} (h : Rdb L v sz m xs) (lo hi : Nat) (h1 : lo ≤ hi) (h2 : hi ≤ m) : Rdb L (Value.cut v lo hi sz) sz (hi - lo) ((xs.drop (lo * sz)).take ((hi - lo) * sz)) := fun S w0 w H => (h S w0 w H).cut lo hi h1 h2
theorem run_slice_cut {t e k bytes len cap : Nat} {z : Value} {A : Option Addr} (ht : TSlice P t e k bytes z) (lo hi : Option Value) (l0 h0 : Nat) (hlo : lo = none ∧ l0 = 0 ∨ ∃ kk i, lo = some (.int kk i) ∧ i = (l0 : Int)) (hhi : hi = none ∧ h0 = len ∨ ∃ kk i, hi = some (.int kk i) ∧ i = (h0 : Int)) (h1 : l0 ≤ h0) (h2 : h0 ≤ cap) (w : World) :
    (Instr.sliceAt t (.slice A len cap) lo hi none).run P w = .ok (Value.cut (.slice A len cap) l0 h0 k) w := by
  have hs := ht.sizeE w
  have e1 : (Instr.sliceBounds true len cap lo hi none).run P w = .ok (l0, h0, cap) w := by
    rcases hlo with ⟨rfl, rfl⟩ | ⟨kk, i, rfl, rfl⟩ <;> rcases hhi with ⟨rfl, rfl⟩ | ⟨kk', i', rfl, rfl⟩
    · simp [Instr.sliceBounds]
    · simp [Instr.sliceBounds, Instr.sliceBound, asIntOf, h2]
    · simp [Instr.sliceBounds, Instr.sliceBound, asIntOf, h1]
    · simp [Instr.sliceBounds, Instr.sliceBound, asIntOf, h1, h2]
  simp [Instr.sliceAt, run_underlying ht.und, Instr.slice, e1, hs, Value.cut]
theorem evO_map {lo : Option Operand} {v : Option Value} {a : Act} (ha : Has n l a) (h : lo.map (evO l) = v.map some) : lo.map a.eval = v := by
  cases lo with
  | none => cases v <;> simp_all
  | some o =>
    cases v with
    | none => simp at h
    | some u => simp only [Option.map_some, Option.some.injEq] at h ⊢; exact ha.eval h
/-- A slice that is read, cut. -/
theorem op_cut {t e k bytes m : Nat} {z q : Value} {xs : List Value} {lo hi : Option Operand} {vlo vhi : Option Value} (l0 h0 : Nat) (ht : TSlice P t e k bytes z) (hx : evO l x = some q) (hr : Rdb L q k m xs) (elo : lo.map (evO l) = vlo.map some) (ehi : hi.map (evO l) = vhi.map some)
    (hlo : vlo = none ∧ l0 = 0 ∨ ∃ kk i, vlo = some (.int kk i) ∧ i = (l0 : Int)) (hhi : vhi = none ∧ h0 = m ∨ ∃ kk i, vhi = some (.int kk i) ∧ i = (h0 : Int)) (h1 : l0 ≤ h0) (h2 : h0 ≤ m) :
    OpV P n l S w0 L ⟨dst, .slice t x lo hi none, ty, pos, af, gd⟩ (Value.cut q l0 h0 k) := fun a w ha hp => by
  obtain ⟨hl, A, c, rfl, h3, h4, _⟩ := hr S w0 w hp
  have := run_slice_cut (P := P) (len := m) (cap := c) (A := A) ht vlo vhi l0 h0 hlo hhi h1 (by omega) w
  simp only [execOp, ha.eval hx, evO_map ha elo, evO_map ha ehi, Option.map_none, Sem.run_bind, this, Result.andThen_ok, Sem.run_pure]
/-- A string, cut. -/
theorem op_scut {t : Nat} {s : ByteArray} {lo hi : Option Operand} {vlo vhi : Option Value} (l0 h0 : Nat) (ht : P.underlying t = some .string) (hx : evO l x = some (.string s)) (elo : lo.map (evO l) = vlo.map some) (ehi : hi.map (evO l) = vhi.map some)
    (hlo : vlo = none ∧ l0 = 0 ∨ ∃ kk i, vlo = some (.int kk i) ∧ i = (l0 : Int)) (hhi : vhi = none ∧ h0 = s.size ∨ ∃ kk i, vhi = some (.int kk i) ∧ i = (h0 : Int)) (h1 : l0 ≤ h0) (h2 : h0 ≤ s.size) :
    OpP P n l ⟨dst, .slice t x lo hi none, ty, pos, af, gd⟩ (.string (s.extract l0 h0)) := fun a w ha => by
  have e1 : (Instr.sliceBounds false s.size s.size vlo vhi none).run P w = .ok (l0, h0, s.size) w := by
    rcases hlo with ⟨rfl, rfl⟩ | ⟨kk, i, rfl, rfl⟩ <;> rcases hhi with ⟨rfl, rfl⟩ | ⟨kk', i', rfl, rfl⟩
    · simp [Instr.sliceBounds]
    · simp [Instr.sliceBounds, Instr.sliceBound, asIntOf, h2]
    · simp [Instr.sliceBounds, Instr.sliceBound, asIntOf, h1]
    · simp [Instr.sliceBounds, Instr.sliceBound, asIntOf, h1, h2]
  simp [execOp, ha.eval hx, evO_map ha elo, evO_map ha ehi, Instr.sliceAt, run_underlying ht, Instr.slice, e1]
/-- xs[:m'] of a row of one's own stays a row: the value, and the heap said anew. -/
theorem row_take {S : Nat → Prop} {w0 w : World} {L : List Res} {v : Value} {e k m m' : Nat} {xs : List Value} (h : Hp S w0 w (.row v e k m xs :: L)) (hm : m' ≤ m) : Hp S w0 w (.row (Value.cut v 0 m' k) e k m' (xs.take (m' * k)) :: L) := by
  have ho : w.ownsRow 0 e k v m xs := h.at_ _ (.head _)
  have hle : m' * k ≤ m * k := Nat.mul_le_mul_right _ hm
  have hkey : (Value.cut v 0 m' k).ownBlock = v.ownBlock := by
    rcases ho.2 with ⟨rfl, rfl⟩ | ⟨g, cap, cur, rfl, _⟩
    · simp [Value.cut, Value.ownBlock]
    · simp only [Value.cut, Nat.zero_mul]
      split <;> simp [Value.ownBlock, Addr.add]
  refine h.as ?_ (fun _ => trivial) (fun g hg => by simp only [Res.keys, hkey] at hg ⊢; exact hg)
  refine ⟨by rw [List.length_take, ho.1]; omega, ?_⟩
  rcases ho.2 with ⟨rfl, rfl⟩ | ⟨g, cap, cur, rfl, hb, hh, hn, hmx, hs, ht⟩
  · obtain rfl : m' = 0 := by omega
    exact .inl ⟨by simp [Value.cut], rfl⟩
  · refine .inr ⟨g, cap, cur, ?_, hb, hh, by omega, hmx, hs, ?_⟩
    · simp only [Value.cut, Nat.zero_mul, Nat.sub_zero]
      split <;> simp [Addr.add]
    · rw [← ht, List.take_take, Nat.min_eq_left hle]
/-- xs[lo:] of a window. -/
theorem win_cut {S : Nat → Prop} {w0 w : World} {L : List Res} {v : Value} {e k m : Nat} {xs : List Value} (h : Hp S w0 w (.win v e k m xs :: L)) (lo : Nat) (hm : lo ≤ m) : Hp S w0 w (.win (Value.cut v lo m k) e k (m - lo) (xs.drop (lo * k)) :: L) := by
  obtain ⟨hl, A, c, rfl, h2, h3, h4⟩ := (show WinRow w v e k m xs from h.at_ _ (.head _))
  have hle : (m - lo) * k + lo * k = m * k := by rw [← Nat.add_mul]; congr 1; omega
  have hkey : (Value.cut (.slice A m c) lo m k).ownBlock = (Value.slice A m c).ownBlock := by
    simp only [Value.cut]
    split
    · cases A <;> rfl
    · cases A with
      | none => rfl
      | some a => simp only [Option.map_some, Value.ownBlock]; unfold Addr.add; split <;> rfl
  refine h.as ⟨by rw [List.length_drop]; omega, _, _, rfl, by omega, by omega, ?_⟩ (fun _ => trivial) (fun g hg => by simp only [Res.keys, hkey] at hg ⊢; exact hg)
  rcases h4 with ⟨rfl, rfl⟩ | ⟨g, off, cur, rfl, hg, hs, ht⟩
  · exact .inl ⟨by split <;> rfl, by omega⟩
  · by_cases hc : c = lo
    · rw [if_pos hc]
      have : m - lo = 0 := by omega
      refine .inr ⟨g, off, cur, rfl, hg, by rw [this]; omega, ?_⟩
      rw [this]
      simp only [Nat.zero_mul, List.take_zero]
      rw [List.drop_eq_nil_of_le (by rw [hl]; exact Nat.mul_le_mul_right _ (by omega))]
    · rw [if_neg hc]
      refine .inr ⟨g, off + lo * k, cur, by simp [add_lit], hg, by omega, ?_⟩
      rw [← ht, List.drop_take, List.drop_drop, show m * k - lo * k = (m - lo) * k by omega]
theorem OpX.make {t e k bytes m : Nat} {z : Value} {zs : List Value} {i : Int} {kl : IntKind} (ht : TSlice P t e k bytes z) (hx : evO l x = some (.int kl i)) (hy : evO l y = some (.int kl i)) (hi : i = (m : Int)) (hb0 : 0 < bytes) (hlen : bytes * m ≤ 281474976710656) (hz : (madeCells z.cells (m * k)).toList = zs) :
    OpX P n l S w0 L ⟨dst, .makeSlice t x y, ty, pos, af, gd⟩ (fun v L' => L' = .row v e k m zs :: L) := .of_run fun a w ha hp => by
  obtain ⟨i0, hi0, hzz⟩ := Option.map_eq_some_iff.1 ht.info
  simp only [Prod.mk.injEq] at hzz
  obtain ⟨hz0, hz1, hz2⟩ := hzz
  subst hi
  have hm : m ≤ 281474976710656 := Nat.le_trans (Nat.le_mul_of_pos_left _ hb0) hlen
  obtain ⟨w', hr, ho, hg⟩ := run_make_full (P := P) w 0 t e i0 z k ht.und hi0 hz0 hz1 kl kl m (by rw [hz2]; exact hlen) (by simp only [maxLen]; omega) (Nat.zero_le _)
  rw [hz] at ho
  have ho2 : w'.heap.size ≥ w.heap.size := hg.size
  refine ⟨_, w', _, ?_, rfl, hp.new ((Kp.grown hg).mono (fun g hg => by cases hg)) ho (fun g hg => ?_)⟩
  · simp [execOp, ha.eval hx, ha.eval hy, hr]
  · simp only [Res.keys, Value.ownBlock, Option.some.injEq] at hg; omega
theorem TL.make {t e k bytes m : Nat} {z : Value} {zs : List Value} {i : Int} {kl : IntKind} (hlt : Nat.blt d n = true) (ht : TSlice P t e k bytes z) (hx : evO l x = some (.int kl i)) (hy : evO l y = some (.int kl i)) (hi : i = (m : Int)) (hb0 : 0 < bytes) (hlen : bytes * m ≤ 281474976710656) (hz : (madeCells z.cells (m * k)).toList = zs)
    (h : ∀ v, TL P ops Q rest n ((d, v) :: l) S w0 (.row v e k m zs :: L)) : TL P ops Q (⟨some d, .makeSlice t x y, ty, pos, af, none⟩ :: rest) n l S w0 L := TL.opX hlt (OpX.make ht hx hy hi hb0 hlen hz) (by rintro v _ rfl; exact h v)
end
end Go.SK
