/- Calls that make and keep memory; conversions of texts. -/
import Derived.Test.YtgklklmcmdcpgaaDoorU0
set_option linter.unusedVariables false
set_option linter.unusedSimpArgs false
set_option maxRecDepth 100000
namespace Go.SK
open Go Go.RowKit
section
variable {P : Program} {n : Nat} {l : FrL} {S : Nat → Prop} {w0 : World} {L : List Res} {ops : Array Oper} {Q : Exit → Act → World → Prop} {rest : List Oper} {dst : Option Tmp} {ty : TypeId} {pos : String} {af : Array Edge} {gd : Option (Nat × Bool)} {x y : Operand} {d : Nat}
/-- What a call does to the heap's list. -/
def CallX (P : Program) (f : FuncId) (vs : List Value) (S : Nat → Prop) (w0 : World) (L : List Res) (R : Value → List Res → Prop) : Prop :=
  ∀ w, Hp S w0 w L → Calls P f vs.toArray w fun e w' => ∃ v L', e = .returned v ∧ R v L' ∧ Hp S w0 w' L'
theorem OpX.callX {f : FuncId} {as : Array Operand} {ts : Array TypeId} {vs : List Value} {R : Value → List Res → Prop} (he : Enters P f) (has : evOs l as.toList = some vs) (hc : CallX P f vs S w0 L R) : OpX P n l S w0 L ⟨dst, .call { callee := .value (.func f), args := as, argTypes := ts }, ty, pos, af, gd⟩ R := OpX.call he has hc
theorem CallX.mono {f : FuncId} {vs : List Value} {R R' : Value → List Res → Prop} (h : CallX P f vs S w0 L R) (hr : ∀ v L', R v L' → R' v L') : CallX P f vs S w0 L R' := fun w hp => (h w hp).mono fun e w' ⟨v, L', h1, h2, h3⟩ => ⟨v, L', h1, hr v L' h2, h3⟩
/-- A call that keeps all that was there, and gives v. -/
theorem CallX.of_quiet {f : FuncId} {vs : List Value} {v : Value} (h : ∀ w, Hp S w0 w L → Calls P f vs.toArray w fun e w' => e = .returned v ∧ Kp NoB w w') : CallX P f vs S w0 L (fun u L' => u = v ∧ L' = L) := fun w hp => (h w hp).mono fun e w' ⟨h1, h2⟩ => ⟨v, L, h1, ⟨rfl, rfl⟩, hp.quiet h2⟩
/-! ### Conversions -/
theorem OpX.runes {t d' e k bytes : Nat} {z : Value} {s : ByteArray} (hs : P.underlying t = some .string) (hd : TSlice P d' e k bytes z) (he : P.underlying e = some (.int .i32)) (hx : evO l x = some (.string s)) (h46 : (dec s).length ≤ 70368744177664) :
    OpX P n l S w0 L ⟨dst, .convert t d' x, ty, pos, af, gd⟩ (fun v L' => L' = .row v e 1 (dec s).length ((dec s).map (Value.int .i32)) :: L) := .of_run fun a w ha hp => by
  have hr := run_runes_of_string (P := P) w t d' e s hs hd.und he (by rw [runes_dec]; simpa using h46)
  have hcap := grownCap_ge w (dec s).length 0 e
  rw [runes_dec] at hr
  simp only [List.size_toArray, List.length_map] at hr
  refine ⟨.slice (some ⟨w.heap.size, 0, none⟩) (dec s).length (grownCap w (dec s).length 0 e), w.drew.alloc (.cells (((dec s).map (Value.int .i32)).toArray ++ Array.replicate (grownCap w (dec s).length 0 e - (dec s).length) (.int .i32 0)) e), _, ?_, rfl, hp.new ((Kp.drew w).trans (Kp.alloc w.drew _)) ?_ (fun g hg => ?_)⟩
  · simp only [execOp, ha.eval hx, Sem.run_bind, hr, Result.andThen_ok, Sem.run_pure]
  · refine ⟨by simp, .inr ⟨w.heap.size, _, _, rfl, Nat.zero_le _, heap_alloc_new w.drew _, hcap, grownCap_le_maxLen w _ 0 e (by simp only [maxLen]; omega), ?_, ?_⟩⟩
    · simp; omega
    · simp
  · simp only [Res.keys, Value.ownBlock, Option.some.injEq] at hg; omega
theorem RdRow.ints {w : World} {v : Value} {m : Nat} {ns : List Int} {kd : IntKind} (h : RdRow w v 1 m (ns.map (Value.int kd))) : ns.length = m := by have := h.1; simpa using this
/-- string(x), x a slice of runes. -/
theorem op_unrunes {t d' e k bytes m : Nat} {z q : Value} {ns : List Int} (hd : TSlice P t e k bytes z) (he : P.underlying e = some (.int .i32)) (hs : P.underlying d' = some .string) (hx : evO l x = some q) (hr : Rdb L q 1 m (ns.map (Value.int .i32))) :
    OpV P n l S w0 L ⟨dst, .convert t d' x, ty, pos, af, gd⟩ (.string (enc ns)) := fun a w ha hp => by
  have hrow := hr S w0 w hp
  have hlen := hrow.ints
  obtain ⟨_, A, c, rfl, hn, hm, hA, hc⟩ := hrow
  have key : (convert t d' (.slice A m c)).run P w = .ok (.string (enc ns)) w := by
    cases A with
    | none =>
      have : m = 0 := by
        rcases Nat.eq_zero_or_pos m with h | h
        · exact h
        · obtain ⟨_, h2⟩ := hA h; cases h2
      subst this
      rw [List.eq_nil_of_length_eq_zero hlen]
      exact run_convert_runes_nil w t d' e 0 c hd.und he hs
    | some ad =>
      have := run_convert_runes (P := P) w t d' e ad m c ns (by omega) hd.und he hs (fun j hj => hc ad rfl j _ (by simp [List.getD_eq_getElem?_getD, List.getElem?_eq_getElem hj]))
      rw [this, enc_runesBytes, List.take_of_length_le (by omega)]
  simp only [execOp, ha.eval hx, Sem.run_bind, key, Result.andThen_ok, Sem.run_pure]
/-- string(c), c a rune. -/
theorem op_unrune {t d' : Nat} {k : IntKind} {c : Int} (ht : (P.underlying t).isSome = true) (hs : P.underlying d' = some .string) (hx : evO l x = some (.int k c)) : OpP P n l ⟨dst, .convert t d' x, ty, pos, af, gd⟩ (.string (Utf8.encode c)) := fun a w ha => by
  simp only [execOp, ha.eval hx, Sem.run_bind, run_convert_int_string w t d' k c ht hs, Result.andThen_ok, Sem.run_pure]
theorem enc_one (c : Int) : Utf8.encode c = enc [c] := ba_ext (by simp [enc, encsL, encL])
/-- []byte(s). -/
theorem OpX.bytes {t d' e k bytes : Nat} {z : Value} {s : ByteArray} (hs : P.underlying t = some .string) (hd : TSlice P d' e k bytes z) (he : P.underlying e = some (.int .u8)) (hx : evO l x = some (.string s)) (hsz : s.size ≤ maxLen) :
    OpX P n l S w0 L ⟨dst, .convert t d' x, ty, pos, af, gd⟩ (fun v L' => L' = .rd v 1 s.size (s.data.toList.map fun b => Value.int .u8 b.toNat) :: L) := .of_run fun a w ha hp => by
  have hr := run_bytes_of_string (P := P) w t d' e s hs hd.und he
  have hcap := grownCap_ge w s.size 0 e
  refine ⟨_, w.drew.alloc (.cells (bytesRow s (grownCap w s.size 0 e)) e ((bytesRow s (grownCap w s.size 0 e)).size, (bytesRow s (grownCap w s.size 0 e)).size + 1)), .rd (.slice (some ⟨w.heap.size, 0, none⟩) s.size (grownCap w s.size 0 e)) 1 s.size (s.data.toList.map fun b => Value.int .u8 b.toNat) :: L, ?_, rfl, hp.new ((Kp.drew w).trans (Kp.alloc w.drew _)) ?_ (fun g hg => ?_)⟩
  · simp only [execOp, ha.eval hx, Sem.run_bind, hr, Result.andThen_ok, Sem.run_pure]
  · refine ⟨by rw [List.length_map, size_len, Nat.mul_one], _, _, rfl, hcap, grownCap_le_maxLen w _ 0 e hsz, fun _ => ⟨_, rfl⟩, ?_⟩
    intro ad had j u hu
    cases had
    rw [add_lit, Nat.zero_add]
    have hc := World.cell?_alloc_mark w.drew (bytesRow s (grownCap w s.size 0 e)) e ((bytesRow s (grownCap w s.size 0 e)).size, (bytesRow s (grownCap w s.size 0 e)).size + 1) j
    refine hc.trans ?_
    have hj : j < s.data.size := by have := (List.getElem?_eq_some_iff.1 hu).1; simpa using this
    rw [bytesRow_at s _ j hj, ← hu, List.getElem?_map, List.getElem?_eq_getElem (by simpa using hj)]
    simp
  · simp only [Res.keys, Value.ownBlock, Option.some.injEq] at hg; omega
theorem rd_cut {S : Nat → Prop} {w0 w : World} {L : List Res} {v : Value} {k m : Nat} {xs : List Value} (h : Hp S w0 w (.rd v k m xs :: L)) (lo hi : Nat) (h1 : lo ≤ hi) (h2 : hi ≤ m) : Hp S w0 w (.rd (Value.cut v lo hi k) k (hi - lo) ((xs.drop (lo * k)).take ((hi - lo) * k)) :: L) := by
  have hv : RdRow w v k m xs := h.at_ _ (.head _)
  refine h.as (hv.cut lo hi h1 h2) (fun x => x) (fun g hg => ?_)
  obtain ⟨hl, A, c, rfl, _⟩ := hv
  refine ⟨?_, fun e => hg.2 (by rw [e]; simp)⟩
  have := hg.1
  simp only [Value.cut] at this
  split at this
  · cases A <;> exact this
  · cases A with
    | none => simp [Value.ownBlock] at this
    | some ad => simp only [Option.map_some, Value.ownBlock] at this ⊢; rw [← this]; unfold Addr.add; split <;> rfl
/-! ### What the heap's list says of values -/
theorem RdRow.one {w : World} {v : Value} {k m : Nat} {xs : List Value} (h : RdRow w v k m xs) : v.oneCell' = true := by obtain ⟨_, A, c, rfl, _⟩ := h; rfl
theorem row1 {w : World} {v : Value} {e k m : Nat} {xs : List Value} (h : Hp S w0 w (.row v e k m xs :: L)) : v.oneCell' = true := (RdRow.of_own (h.at_ _ (.head _))).one
theorem rd1' {w : World} {v : Value} {k m : Nat} {xs : List Value} (h : Hp S w0 w (.rd v k m xs :: L)) : v.oneCell' = true := RdRow.one (h.at_ _ (.head _))
theorem win1 {w : World} {v : Value} {e k m : Nat} {xs : List Value} (h : Hp S w0 w (.win v e k m xs :: L)) : v.oneCell' = true := (WinRow.rd (h.at_ _ (.head _))).one
theorem Rdb.one {v : Value} {k m : Nat} {xs : List Value} (h : Rdb L v k m xs) {w : World} (hp : Hp S w0 w L) : v.oneCell' = true := (h S w0 w hp).one
theorem Rdb.lenLe {v : Value} {k m : Nat} {xs : List Value} (h : Rdb L v k m xs) {w : World} (hp : Hp S w0 w L) : m ≤ 9223372036854775807 := by obtain ⟨_, A, c, _, h1, h2, _⟩ := h S w0 w hp; simp only [maxLen] at h2; omega
theorem Rdb.len {v : Value} {k m : Nat} {xs : List Value} (h : Rdb L v k m xs) {w : World} (hp : Hp S w0 w L) : xs.length = m * k := (h S w0 w hp).1
theorem TL.know {φ : Prop} (h : ∀ w, Hp S w0 w L → φ) (k : φ → TL P ops Q rest n l S w0 L) : TL P ops Q rest n l S w0 L := fun a w ha hp => k (h w hp) a w ha hp
theorem TC.know {φ : Prop} {c : Code} (h : ∀ w, Hp S w0 w L → φ) (k : φ → TC P c Q n l S w0 L) : TC P c Q n l S w0 L := fun a w ha hp => k (h w hp) a w ha hp
theorem TR.know {φ : Prop} {LS : List Res} {ord : Od} (h : ∀ w, Hp S w0 w L → φ) (k : φ → TR P ops Q LS ord n l S w0 L) : TR P ops Q LS ord n l S w0 L := fun a w ha hp => k (h w hp) a w ha hp
theorem Rdb.ints_take {v : Value} {m : Nat} {ns : List Int} {kd : IntKind} (h : Rdb L v 1 m (ns.map (Value.int kd))) (k : Nat) (hk : k ≤ m) : Rdb L (Value.cut v 0 k 1) 1 k ((ns.take k).map (Value.int kd)) := by
  have := h.cut 0 k (Nat.zero_le _) hk
  simpa using this
theorem Rdb.ints_drop {v : Value} {m : Nat} {ns : List Int} {kd : IntKind} (h : Rdb L v 1 m (ns.map (Value.int kd))) (k : Nat) (hk : k ≤ m) (hm : ns.length = m) : Rdb L (Value.cut v k m 1) 1 (ns.drop k).length ((ns.drop k).map (Value.int kd)) := by
  have := h.cut k m hk (Nat.le_refl _)
  rw [List.length_drop, hm]
  simp only [Nat.mul_one] at this
  rw [List.take_of_length_le (by rw [List.length_drop, List.length_map]; omega), ← List.map_drop] at this
  exact this
theorem rd_drop {v : Value} {ns : List Int} {kd : IntKind} {w : World} (h : Hp S w0 w (.rd v 1 ns.length (ns.map (Value.int kd)) :: L)) (k : Nat) (hk : k ≤ ns.length) : Hp S w0 w (.rd (Value.cut v k ns.length 1) 1 (ns.drop k).length ((ns.drop k).map (Value.int kd)) :: L) := by
  have := rd_cut h k ns.length hk (Nat.le_refl _)
  rw [List.length_drop]
  simp only [Nat.mul_one] at this
  rw [List.take_of_length_le (by rw [List.length_drop, List.length_map]; omega), ← List.map_drop] at this
  exact this
theorem rd_nil {w : World} (e k : Nat) (h : Hp S w0 w L) : Hp S w0 w (.rd (.slice none 0 0) k 0 [] :: L) := row_rd (new_nil e k h)
theorem OpX.make0 {t e k bytes m : Nat} {z : Value} {i : Int} {kl kc : IntKind} (ht : TSlice P t e k bytes z) (hx : evO l x = some (.int kl 0)) (hy : evO l y = some (.int kc i)) (hi : i = (m : Int)) (hb0 : 0 < bytes) (hlen : bytes * m ≤ 281474976710656) :
    OpX P n l S w0 L ⟨dst, .makeSlice t x y, ty, pos, af, gd⟩ (fun v L' => L' = .row v e k 0 [] :: L) := .of_run fun a w ha hp => by
  obtain ⟨i0, hi0, hzz⟩ := Option.map_eq_some_iff.1 ht.info
  simp only [Prod.mk.injEq] at hzz
  obtain ⟨hz0, hz1, hz2⟩ := hzz
  subst hi
  have hm : m ≤ 281474976710656 := Nat.le_trans (Nat.le_mul_of_pos_left _ hb0) hlen
  have hb' : (i0.bytes : Int) * (m : Int) ≤ 281474976710656 := by
    rw [hz2]
    have h : ((bytes * m : Nat) : Int) ≤ 281474976710656 := by omega
    rwa [Int.natCast_mul] at h
  have hr := run_make (P := P) w t e i0 z ht.und hi0 hz0 kl kc 0 m (by omega) (by omega) hb' (by omega)
  simp only [Int.toNat_natCast, Int.toNat_zero] at hr
  refine ⟨_, _, _, ?_, rfl, hp.new (r := .row (.slice (some ⟨w.heap.size, 0, none⟩) 0 m) e k 0 []) (Kp.alloc w (.cells (madeCells z.cells (m * i0.size)) e)) ?_ (fun g hg => ?_)⟩
  · simp [execOp, ha.eval hx, ha.eval hy, hr]
  · exact ⟨by simp, .inr ⟨w.heap.size, m, _, rfl, Nat.zero_le _, heap_alloc_new w _, Nat.zero_le _, by simp only [maxLen]; omega, by rw [size_madeCells, hz1], by simp⟩⟩
  · simp only [Res.keys, Value.ownBlock, Option.some.injEq] at hg; omega
theorem ints_one {kd : IntKind} (ns : List Int) : ∀ u ∈ ns.map (Value.int kd), u.oneCell' = true := by
  intro u hu
  obtain ⟨x, _, rfl⟩ := List.mem_map.1 hu
  rfl
theorem row_len1 {v : Value} {e m : Nat} {ns : List Int} {kd : IntKind} {w : World} (h : Hp S w0 w (.row v e 1 m (ns.map (Value.int kd)) :: L)) : Hp S w0 w (.row v e 1 ns.length (ns.map (Value.int kd)) :: L) := by
  have h1 : w.ownsRow 0 e 1 v m (ns.map (Value.int kd)) := h.at_ _ (.head _)
  have h2 : ns.length = m := by have := h1.1; simpa using this
  rw [h2]; exact h
end
end Go.SK
