/- Walks: layer 10, where two texts meet; which may be compared. -/
import Derived.Test.YtnleenjmnndphaaDoorE31
import Derived.Laws.Bits64
set_option linter.unusedVariables false
set_option linter.unusedSimpArgs false
set_option maxRecDepth 100000
namespace Go.SK
open Go Go.RowKit Go.Proofs
variable {S : Nat → Prop} {w0 : World} {F L : List Res}
theorem op_rem {P : Program} {n : Nat} {l : FrL} {dst : Option Tmp} {x y : Operand} {ty t t' : TypeId} {pos : String} {af : Array Edge} {gd : Option (Nat × Bool)} {k : IntKind} {a b : Int} (hx : evO l x = some (.int k a)) (hy : evO l y = some (.int k b)) (h0 : 0 ≤ a) (h1 : 0 < b) :
    OpP P n l ⟨dst, .binOp .rem t x y t', ty, pos, af, gd⟩ (.int k (a % b)) := fun q w ha => by
  simp [execOp, ha.eval hx, ha.eval hy, eqGuard, binOp, Op.intDiv, if_neg (show ¬ b = 0 by omega), Int.tmod_eq_emod_of_nonneg h0]
theorem op_bneq {P : Program} {n : Nat} {l : FrL} {dst : Option Tmp} {t t' : TypeId} {ty : TypeId} {pos : String} {af : Array Edge} {gd : Option (Nat × Bool)} {x y : Operand} {a b : Bool} (ht : P.underlying t = some .bool) (hx : evO l x = some (.bool a)) (hy : evO l y = some (.bool b)) : OpP P n l ⟨dst, .binOp .neq t x y t', ty, pos, af, gd⟩ (.bool (decide (¬ a = b))) := fun q w ha => by
  have h1 : (Op.equal t (.bool a) (.bool b)).run P w = .ok (a == b) w := by
    unfold Op.equal
    rw [show Op.maxDepth = (Op.maxDepth - 1) + 1 from by decide]
    exact run_equalIn_bool' w _ t a b ht
  have h2 : (!(a == b)) = decide (¬ a = b) := by cases a <;> cases b <;> rfl
  simp only [execOp, ha.eval hx, ha.eval hy, Sem.run_bind, eqGuard, binOp]
  simp [h1, h2]
theorem lkSt {out : List Str} {i k : Nat} {p : Str} (h : i < out.length) (hp : out.getD i default = p) (hk : k = i * 3 := by omega) : ((encs out).drop k).take 3 = [.int .i64 p.1, .int .i64 p.2.1, .int .i64 p.2.2] := by
  subst hk
  have h1 : i * 3 = i * Enc.sz (Int × Int × Int) := rfl
  rw [h1, encs_drop, drop_getD h hp]
  rfl
theorem meet_start (a b : List Str) : 0 ≤ a.length ∧ (a.length ≤ 0 → (0 : Int) = meetN a b) ∧ (0 : Int) + meetN (a.drop 0) b = meetN a b ∧ (0 : Int) ≤ 0 ∧ (0 : Int) ≤ ((0 : Nat) : Int) * 2048 := by
  refine ⟨Nat.zero_le _, fun h => ?_, by simp, by omega, by omega⟩
  have he : a = [] := List.length_eq_zero_iff.1 (by omega)
  subst he; rfl
theorem meet_next {a b : List Str} {i j : Nat} {n n' : Int} {p : Str} (hi : i < a.length) (hp : a.getD i default = p) (h : n + meetN (a.drop i) b = meetN a b) (hj : n' + meetRow p (b.drop j) = n + meetRow p b) (hje : b.length ≤ j) (hn : 0 ≤ n) (h0 : n ≤ n') (h1 : n' ≤ ((i + 1 : Nat) : Int) * 2048) :
    i + 1 ≤ a.length ∧ (a.length ≤ i + 1 → n' = meetN a b) ∧ n' + meetN (a.drop (i + 1)) b = meetN a b ∧ 0 ≤ n' ∧ n' ≤ ((i + 1 : Nat) : Int) * 2048 := by
  rw [List.drop_eq_nil_of_le hje] at hj
  rw [drop_getD hi hp, meetN] at h
  have e : n' + meetN (a.drop (i + 1)) b = meetN a b := by simp only [meetRow] at hj; omega
  refine ⟨by omega, fun hl => ?_, e, by omega, h1⟩
  rw [List.drop_eq_nil_of_le hl] at e
  simpa [meetN] using e
theorem meetRow_step {p q : Str} {b : List Str} {j : Nat} (hj : j < b.length) (hq : b.getD j default = q) : meetRow p (b.drop j) = (if meetB p q then 1 else 0) + meetRow p (b.drop (j + 1)) := by
  rw [drop_getD hj hq]; rfl
theorem meet_row {p q : Str} {b : List Str} {j : Nat} {n n' : Int} (h : meetRow p (b.drop j) = (if meetB p q then 1 else 0) + meetRow p (b.drop (j + 1))) (hi : n' + meetRow p (b.drop j) = n + meetRow p b) (hj : j < b.length) (h0 : n ≤ n') (h1 : n' ≤ n + j) (c : Bool) (hc : meetB p q = c) :
    j + 1 ≤ b.length ∧ (if c then n' + 1 else n') + meetRow p (b.drop (j + 1)) = n + meetRow p b ∧ n ≤ (if c then n' + 1 else n') ∧ (if c then n' + 1 else n') ≤ n + ((j + 1 : Nat) : Int) := by
  rw [hc] at h
  cases c <;> simp at h ⊢ <;> omega
def StB (t : Str) : Prop := 0 ≤ t.1 ∧ t.1 ≤ 4503599627370496 ∧ 0 ≤ t.2.1 ∧ t.2.1 ≤ 1099511627776
theorem strGo_bound : ∀ (e : List Part) (b : Bool) (o : Int) (out : List Str), Fits e → 0 ≤ o → o + e.length * 1099511627776 ≤ 4503599627370496 → (∀ t ∈ out, StB t) → ∀ t ∈ strGo e b o out, StB t
  | [], b, o, out, _, _, _, ho => ho
  | p :: r, b, o, out, hf, h0, h1, ho => by
    have hn := fitsB_n (hf p (.head _))
    have hl : ((p :: r).length : Int) * 1099511627776 = (r.length : Int) * 1099511627776 + 1099511627776 := by rw [List.length_cons]; push_cast; omega
    rw [strGo]
    have happ : ∀ t, StB t → ∀ u ∈ out ++ [t], StB u := fun t ht u hu => (List.mem_append.1 hu).elim (ho u) (fun h => by rw [List.mem_singleton.1 h]; exact ht)
    have hset : ∀ u ∈ setLast out p.n, StB u := by
      intro u hu
      unfold setLast at hu
      cases hg : out.getLast? with
      | none => rw [hg] at hu; exact ho u hu
      | some t =>
        rw [hg] at hu
        have ht : t ∈ out := List.mem_of_getLast? hg
        rcases List.mem_append.1 hu with hu | hu
        · exact ho u (List.dropLast_subset _ hu)
        · rw [List.mem_singleton.1 hu]; have := ho t ht; exact ⟨this.1, this.2.1, by show 0 ≤ p.n; omega, by show p.n ≤ _; omega⟩
    split
    · exact strGo_bound r _ _ _ hf.tail (by omega) (by omega) ho
    · split
      · exact strGo_bound r _ _ _ hf.tail h0 (by omega) (happ _ ⟨h0, by show o ≤ _; omega, by show (0 : Int) ≤ 0; omega, by show (0 : Int) ≤ _; omega⟩)
      · split
        · exact strGo_bound r _ _ _ hf.tail (by omega) (by omega) hset
        · exact strGo_bound r _ _ _ hf.tail (by omega) (by omega) (happ _ ⟨h0, by show o ≤ _; omega, by show 0 ≤ p.n; omega, by show p.n ≤ _; omega⟩)
theorem str_bound {e : List Part} (hf : Fits e) (hl : e.length ≤ 2048) : ∀ t ∈ strF e, StB t := strGo_bound e false 0 [] hf (by omega) (by omega) (fun t ht => by cases ht)
theorem ckT_of (s : ByteArray) : ckT s = if runesF s.data.toList < 0 then 21 else if 1024 < runesF s.data.toList then 4 else 0 := by
  unfold ckT
  rcases runesF_cases s with ⟨h1, h2⟩ | ⟨h1, h2⟩
  · rw [h2, if_neg (by simp [h1]), if_neg (show ¬ (rcount s : Int) < 0 by omega)]
  · rw [h2, if_pos h1, if_pos (by decide)]
theorem getD_mem' {α : Type} [Inhabited α] {l : List α} {k : Nat} {x : α} (h : k < l.length) (hx : l.getD k default = x) : x ∈ l := getD_mem h hx
theorem u64_pos (i : Int) : 0 ≤ IntKind.u64.wrap i := by rw [IntKind.wrap_u64]; omega
theorem size_pos {s : ByteArray} (h : ¬ s = ⟨#[]⟩) : 0 < s.size := by
  rcases Nat.eq_zero_or_pos s.size with h0 | h0
  · exact absurd (toList_inj s ⟨#[]⟩ (by rw [ByteArray.toList_eq, ByteArray.toList_eq]; have : s.data = #[] := Array.eq_empty_of_size_eq_zero h0; rw [this])) h
  · exact h0
theorem meet_x (base a b : ByteArray) (h0 : base.size ≤ 70368744177664) (h1 : a.size ≤ 70368744177664) (h2 : b.size ≤ 70368744177664) (hT : tabs ∈ L) :
    CallX Tryd.prog 30 [.string base, .string a, .string b] S w0 (L) (fun u L' => u = .tuple #[.int .i64 (meetF base a b), .int .i64 (meetE base a b)] ∧ L' = L) := by
  intro w hp
  have hl1 := diffF_len base a
  have hl2 := diffF_len base b
  have hs1 := strGo_len (diffF base a) false 0 []
  have hs2 := strGo_len (diffF base b) false 0 []
  have hs1' : (strF (diffF base a)).length ≤ 2048 := by simp only [List.length_nil] at hs1; unfold strF; omega
  have hs2' : (strF (diffF base b)).length ≤ 2048 := by simp only [List.length_nil] at hs2; unfold strF; omega
  refine calls_start Tryd.func30 rfl rfl rfl (hp) ?_
  refine TC.seq ?_
  refine TC.region ?_   -- region 0 diff.go:158
  refine TL.opP rfl (op_assign rfl) ?_
  refine TL.opP rfl (op_assign rfl) ?_
  refine TL.nil ?_
  refine TQ.then ?_
  refine TC.seq ?_
  refine TC.region ?_   -- region 1 diff.go:159
  refine TL.opP rfl (op_move rfl) ?_
  refine TL.opP rfl (op_move rfl) ?_
  refine TL.opX rfl (OpX.callX en_19 rfl (diff_x base a (by omega) (by omega) hT)) ?_; rintro _ _ ⟨w1, rfl, rfl⟩
  refine TL.opP rfl (op_move rfl) ?_
  refine TL.opP rfl (op_extract rfl rfl) ?_
  refine TL.opP rfl (op_extract rfl rfl) ?_
  refine TL.opP rfl (op_assign rfl) ?_
  refine TL.opP rfl (op_assign rfl) ?_
  refine TL.nil ?_
  refine TQ.then ?_
  refine TC.seq ?_
  refine TC.seq ?_
  refine TC.region ?_   -- region 2 diff.go:160
  refine TL.opP rfl (op_move rfl) ?_
  refine TL.opP rfl (op_neq rfl rfl) ?_
  refine TL.nil ?_
  refine TQ.then ?_
  first | refine TC.condD rfl (fun c1 => ?_) (fun c1 => ?_) | refine TC.condB rfl (fun c1 => ?_) (fun c1 => ?_)
  · refine TC.seq ?_
    refine TC.region ?_   -- region 3 diff.go:161
    refine TL.opP rfl (op_move rfl) ?_
    refine TL.opP rfl (op_assign rfl) ?_
    refine TL.opP rfl (op_assign rfl) ?_
    refine TL.nil ?_
    refine TQ.then ?_
    refine TC.ret ?_
    refine TQ.then_ret ?_
    refine ret2 rfl rfl rfl (fun w' hp => ?_)
    first
      | (have hk : meetE base a b = ck2 base a := if_pos c1
         exact ⟨_, _, rfl, ⟨by unfold meetF; rw [hk, if_neg (show ¬ ck2 base a = 0 from c1)]; rfl, rfl⟩, (hp.tail)⟩)
      | (have hk : meetE base a b = ck2 base b := if_neg c1
         exact ⟨_, _, rfl, ⟨by unfold meetF; rw [hk, if_neg (show ¬ ck2 base b = 0 from c2)]; rfl, rfl⟩, (hp.tail)⟩)
      | exact ⟨_, _, rfl, ⟨by rw [hk0, hkF, hI.2.1 (by omega)], rfl⟩, (hp.tail)⟩
  · refine TC.skip ?_
    refine TQ.then ?_
    refine TC.seq ?_
    refine TC.region ?_   -- region 4 diff.go:163
    refine TL.opP rfl (op_move rfl) ?_
    refine TL.opP rfl (op_move rfl) ?_
    refine TL.opX rfl (OpX.callX en_19 rfl (diff_x base b (by omega) (by omega) (.tail _ hT))) ?_; rintro _ _ ⟨w2, rfl, rfl⟩
    refine TL.opP rfl (op_move rfl) ?_
    refine TL.opP rfl (op_extract rfl rfl) ?_
    refine TL.opP rfl (op_extract rfl rfl) ?_
    refine TL.opP rfl (op_assign rfl) ?_
    refine TL.opP rfl (op_assign rfl) ?_
    refine TL.nil ?_
    refine TQ.then ?_
    refine TC.seq ?_
    refine TC.seq ?_
    refine TC.region ?_   -- region 5 diff.go:164
    refine TL.opP rfl (op_move rfl) ?_
    refine TL.opP rfl (op_neq rfl rfl) ?_
    refine TL.nil ?_
    refine TQ.then ?_
    first | refine TC.condD rfl (fun c2 => ?_) (fun c2 => ?_) | refine TC.condB rfl (fun c2 => ?_) (fun c2 => ?_)
    · refine TC.seq ?_
      refine TC.region ?_   -- region 6 diff.go:165
      refine TL.opP rfl (op_move rfl) ?_
      refine TL.opP rfl (op_assign rfl) ?_
      refine TL.opP rfl (op_assign rfl) ?_
      refine TL.nil ?_
      refine TQ.then ?_
      refine TC.ret ?_
      refine TQ.then_ret ?_
      refine ret2 rfl rfl rfl (fun w' hp => ?_)
      first
        | (have hk : meetE base a b = ck2 base a := if_pos c1
           exact ⟨_, _, rfl, ⟨by unfold meetF; rw [hk, if_neg (show ¬ ck2 base a = 0 from c1)]; rfl, rfl⟩, (hp.drop1.tail)⟩)
        | (have hk : meetE base a b = ck2 base b := if_neg c1
           exact ⟨_, _, rfl, ⟨by unfold meetF; rw [hk, if_neg (show ¬ ck2 base b = 0 from c2)]; rfl, rfl⟩, (hp.drop1.tail)⟩)
        | exact ⟨_, _, rfl, ⟨by rw [hk0, hkF, hI.2.1 (by omega)], rfl⟩, (hp.drop1.tail)⟩
    · have z1 : ck2 base a = 0 := by have : diffE base a = ck2 base a := rfl; omega
      have z2 : ck2 base b = 0 := by have : diffE base b = ck2 base b := rfl; omega
      have hk0 : meetE base a b = 0 := meetE_z.2 ⟨z1, z2⟩
      have hkF : meetF base a b = meetN (strF (diffF base a)) (strF (diffF base b)) := if_pos hk0
      obtain ⟨ox, hxn, hxt, _⟩ := diffF_facts z1
      obtain ⟨oy, hyn, hyt, _⟩ := diffF_facts z2
      obtain ⟨_, _, hd1, hd2, _⟩ := diffE_z z1
      obtain ⟨_, _, _, hd3, _⟩ := diffE_z z2
      have bx := str_bound ox.fits hl1
      have by_ := str_bound oy.fits hl2
      refine TC.skip ?_
      refine TQ.then ?_
      refine TC.seq ?_
      refine TC.region ?_   -- region 7 diff.go:167
      refine TL.opP rfl (op_assign rfl) ?_
      refine TL.nil ?_
      refine TQ.then ?_
      refine TC.seq ?_
      refine TC.seq ?_
      refine TC.region ?_   -- region 8 diff.go:168
      refine TL.opP rfl (op_move rfl) ?_
      refine TL.opX rfl (OpX.callX en_67 rfl (dstr_x (diffF base a) _ ox.fits (by omega) rw1)) ?_; rintro w3 _ ⟨_, rfl, rfl⟩
      refine TL.opV rfl (op_lenV rfl un_sl_diff_stretch rfl rw0) ?_
      refine TL.opP rfl (op_move rfl) ?_
      refine TL.nil ?_
      refine TQ.then ?_
      refine TC.block ?_
      refine TC.loop (ι := Nat × Int) (fun (i, n) => [(10, w2), (11, .int .i64 n), (35, w3), (36, .int .i64 ((strF (diffF base a)).length : Int)), (37, .int .i64 (i : Int))]) (fun (i, n) => .row w3 105 3 (strF (diffF base a)).length (encs (strF (diffF base a))) :: .row w2 36 3 (diffF base b).length (encs (diffF base b)) :: L) (fun (i, n) => i ≤ (strF (diffF base a)).length ∧ ((strF (diffF base a)).length ≤ i → n = meetN (strF (diffF base a)) (strF (diffF base b))) ∧ n + meetN ((strF (diffF base a)).drop i) (strF (diffF base b)) = meetN (strF (diffF base a)) (strF (diffF base b)) ∧ 0 ≤ n ∧ n ≤ (i : Int) * 2048) (fun (i, n) => (strF (diffF base a)).length - i) ((0, 0)) ((meet_start _ _)) ⟨rfl, rfl, rfl, rfl, rfl, trivial⟩ (fun _ h => h.drop2) ?_
      rintro ⟨i, n⟩ hI
      have hil := hI.1
      have hn0 := hI.2.2.2.1
      have hn1 := hI.2.2.2.2
      show TC _ _ _ _ [(10, w2), (11, .int .i64 n), (35, w3), (36, .int .i64 ((strF (diffF base a)).length : Int)), (37, .int .i64 (i : Int))] _ _ (.row w3 105 3 (strF (diffF base a)).length (encs (strF (diffF base a))) :: .row w2 36 3 (diffF base b).length (encs (diffF base b)) :: L)
      refine TC.seq ?_
      refine TC.region ?_   -- region 9 diff.go:168
      refine TL.opP rfl (op_lss rfl rfl) ?_
      refine TL.nil ?_
      refine TQ.then ?_
      refine TC.seq ?_
      first | refine TC.condD rfl (fun c3 => ?_) (fun c3 => ?_) | refine TC.condB rfl (fun c3 => ?_) (fun c3 => ?_)
      · have hil1 : i < (strF (diffF base a)).length := by omega
        obtain ⟨p, hpi⟩ : ∃ p, (strF (diffF base a)).getD i default = p := ⟨_, rfl⟩
        obtain ⟨hpb1, hpb2, hpb3, hpb4⟩ := bx p (getD_mem hil1 hpi)
        refine TC.skip ?_
        refine TQ.then ?_
        refine TC.seq ?_
        refine TC.block ?_
        refine TC.seq ?_
        refine TC.region ?_   -- region 10 diff.go:168
        refine TL.opV rfl (op_index tsl_diff_stretch rfl rw0 rfl (by omega) (by omega)) ?_
        refine TL.opV rfl (op_loadRS tst_diff_stretch rfl rw0 (cs := [.int .i64 p.1, .int .i64 p.2.1, .int .i64 p.2.2]) rfl (lkSt hil1 hpi) (by decide)) ?_
        refine TL.opX rfl (OpX.alloc tz_diff_stretch rfl) ?_; rintro _ _ ⟨g13, rfl, rfl⟩
        refine TL.opX0 (OpX.storeS tst_diff_stretch rfl rfl rfl rfl rfl (List.all_eq_true.1 rfl)) ?_; rintro _ _ rfl
        refine TL.nil ?_
        refine TQ.then ?_
        refine TC.seq ?_
        refine TC.region ?_   -- region 11 diff.go:169
        refine TL.opP rfl (op_move rfl) ?_
        refine TL.opX rfl (OpX.callX en_67 rfl (dstr_x (diffF base b) _ oy.fits (by omega) rw2)) ?_; rintro w4 _ ⟨_, rfl, rfl⟩
        refine TL.opV rfl (op_lenV rfl un_sl_diff_stretch rfl rw0) ?_
        refine TL.opP rfl (op_move rfl) ?_
        refine TL.nil ?_
        refine TQ.then ?_
        refine TC.block ?_
        refine TC.loop (ι := Nat × Int) (fun (j, n') => [(10, w2), (11, .int .i64 n'), (13, .pointer (some ⟨g13, 0, none⟩)), (35, w3), (36, .int .i64 ((strF (diffF base a)).length : Int)), (37, .int .i64 (i : Int)), (42, w4), (43, .int .i64 ((strF (diffF base b)).length : Int)), (44, .int .i64 (j : Int))]) (fun (j, n') => .blk g13 (.cells [.int .i64 p.1, .int .i64 p.2.1, .int .i64 p.2.2].toArray 105 (0, 0)) :: .row w4 105 3 (strF (diffF base b)).length (encs (strF (diffF base b))) :: .row w3 105 3 (strF (diffF base a)).length (encs (strF (diffF base a))) :: .row w2 36 3 (diffF base b).length (encs (diffF base b)) :: L) (fun (j, n') => j ≤ (strF (diffF base b)).length ∧ n' + meetRow p ((strF (diffF base b)).drop j) = n + meetRow p (strF (diffF base b)) ∧ n ≤ n' ∧ n' ≤ n + j) (fun (j, n') => (strF (diffF base b)).length - j) ((0, n)) (⟨Nat.zero_le _, by simp, by omega, by omega⟩) ⟨rfl, rfl, rfl, rfl, rfl, rfl, rfl, rfl, rfl, trivial⟩ (fun _ h => h.pick3.pick3.pick2.pick3) ?_
        rintro ⟨j, n'⟩ hJ
        have hjl := hJ.1
        have hj0 := hJ.2.2.1
        have hj1 := hJ.2.2.2
        show TC _ _ _ _ [(10, w2), (11, .int .i64 n'), (13, .pointer (some ⟨g13, 0, none⟩)), (35, w3), (36, .int .i64 ((strF (diffF base a)).length : Int)), (37, .int .i64 (i : Int)), (42, w4), (43, .int .i64 ((strF (diffF base b)).length : Int)), (44, .int .i64 (j : Int))] _ _ (.blk g13 (.cells [.int .i64 p.1, .int .i64 p.2.1, .int .i64 p.2.2].toArray 105 (0, 0)) :: .row w4 105 3 (strF (diffF base b)).length (encs (strF (diffF base b))) :: .row w3 105 3 (strF (diffF base a)).length (encs (strF (diffF base a))) :: .row w2 36 3 (diffF base b).length (encs (diffF base b)) :: L)
        refine TC.seq ?_
        refine TC.region ?_   -- region 12 diff.go:169
        refine TL.opP rfl (op_lss rfl rfl) ?_
        refine TL.nil ?_
        refine TQ.then ?_
        refine TC.seq ?_
        first | refine TC.condD rfl (fun c4 => ?_) (fun c4 => ?_) | refine TC.condB rfl (fun c4 => ?_) (fun c4 => ?_)
        · have hjl1 : j < (strF (diffF base b)).length := by omega
          obtain ⟨q, hqj⟩ : ∃ q, (strF (diffF base b)).getD j default = q := ⟨_, rfl⟩
          obtain ⟨hqb1, hqb2, hqb3, hqb4⟩ := by_ q (getD_mem hjl1 hqj)
          have hmr := meetRow_step (p := p) hjl1 hqj
          refine TC.skip ?_
          refine TQ.then ?_
          refine TC.seq ?_
          refine TC.block ?_
          refine TC.seq ?_
          refine TC.region ?_   -- region 13 diff.go:169
          refine TL.opV rfl (op_index tsl_diff_stretch rfl rw1 rfl (by omega) (by omega)) ?_
          refine TL.opV rfl (op_loadRS tst_diff_stretch rfl rw1 (cs := [.int .i64 q.1, .int .i64 q.2.1, .int .i64 q.2.2]) rfl (lkSt hjl1 hqj) (by decide)) ?_
          refine TL.opX rfl (OpX.alloc tz_diff_stretch rfl) ?_; rintro _ _ ⟨g15, rfl, rfl⟩
          refine TL.opX0 (OpX.storeS tst_diff_stretch rfl rfl rfl rfl rfl (List.all_eq_true.1 rfl)) ?_; rintro _ _ rfl
          refine TL.nil ?_
          refine TQ.then ?_
          refine TC.seq ?_
          refine TC.region ?_   -- region 14 diff.go:170
          refine TL.opP rfl (op_field fld_diff_stretch_at rfl) ?_
          refine TL.opV rfl (op_load ts_int rfl m1 rfl) ?_
          refine TL.opP rfl (op_field fld_diff_stretch_at rfl) ?_
          refine TL.opV rfl (op_load ts_int rfl m0 rfl) ?_
          refine TL.opP rfl (op_field fld_diff_stretch_drop rfl) ?_
          refine TL.opV rfl (op_load ts_int rfl m0 rfl) ?_
          refine TL.opP rfl (op_add rfl rfl rfl (by omega) (by omega)) ?_
          refine TL.opP rfl (op_leq rfl rfl) ?_
          refine TL.opP rfl (op_move rfl) ?_
          first | refine TL.splitD (fun c5 => ?_) (fun c5 => ?_) | refine TL.splitB (fun c5 => ?_) (fun c5 => ?_)
          · refine TL.gT rfl rfl ?_
            refine TL.opP rfl (op_field fld_diff_stretch_at rfl) ?_
            refine TL.gT rfl rfl ?_
            refine TL.opV rfl (op_load ts_int rfl m0 rfl) ?_
            refine TL.gT rfl rfl ?_
            refine TL.opP rfl (op_field fld_diff_stretch_at rfl) ?_
            refine TL.gT rfl rfl ?_
            refine TL.opV rfl (op_load ts_int rfl m1 rfl) ?_
            refine TL.gT rfl rfl ?_
            refine TL.opP rfl (op_field fld_diff_stretch_drop rfl) ?_
            refine TL.gT rfl rfl ?_
            refine TL.opV rfl (op_load ts_int rfl m1 rfl) ?_
            refine TL.gT rfl rfl ?_
            refine TL.opP rfl (op_add rfl rfl rfl (by omega) (by omega)) ?_
            refine TL.gT rfl rfl ?_
            refine TL.opP rfl (op_leq rfl rfl) ?_
            refine TL.opP rfl (op_pickT rfl rfl) ?_
            refine TL.nil ?_
            refine TQ.then ?_
            first | refine TC.condD rfl (fun c6 => ?_) (fun c6 => ?_) | refine TC.condB rfl (fun c6 => ?_) (fun c6 => ?_)
            · refine TC.region ?_   -- region 15 diff.go:171
              refine TL.opP rfl (op_move rfl) ?_
              refine TL.opP rfl (op_add rfl rfl rfl (by omega) (by omega)) ?_
              refine TL.opP rfl (op_assign rfl) ?_
              refine TL.nil ?_
              refine TQ.block_normal ?_
              refine TQ.then ?_
              refine TC.region ?_   -- region 16 diff.go:169
              refine TL.opP rfl (op_add rfl rfl rfl (by omega) (by omega)) ?_
              refine TL.opP rfl (op_move rfl) ?_
              refine TL.nil ?_
              exact TQ.round (j + 1, n' + 1) (meet_row hmr hJ.2.1 hjl1 hj0 hj1 true (by simp [meetB]; omega)) (by show _ - (j + 1) < _ - j; omega) ⟨rfl, rfl, rfl, rfl, rfl, rfl, rfl, rfl, rfl, trivial⟩ (fun _ h => h.tail)
            · refine TC.skip ?_
              refine TQ.block_normal ?_
              refine TQ.then ?_
              refine TC.region ?_   -- region 16 diff.go:169
              refine TL.opP rfl (op_add rfl rfl rfl (by omega) (by omega)) ?_
              refine TL.opP rfl (op_move rfl) ?_
              refine TL.nil ?_
              exact TQ.round (j + 1, n') (meet_row hmr hJ.2.1 hjl1 hj0 hj1 false (by simp [meetB]; omega)) (by show _ - (j + 1) < _ - j; omega) ⟨rfl, rfl, rfl, rfl, rfl, rfl, rfl, rfl, rfl, trivial⟩ (fun _ h => h.tail)
          · refine TL.gFf rfl rfl rfl ?_
            refine TL.gFf rfl rfl rfl ?_
            refine TL.gFf rfl rfl rfl ?_
            refine TL.gFf rfl rfl rfl ?_
            refine TL.gFf rfl rfl rfl ?_
            refine TL.gFf rfl rfl rfl ?_
            refine TL.gFf rfl rfl rfl ?_
            refine TL.gFf rfl rfl rfl ?_
            refine TL.opP rfl (op_pickF rfl rfl) ?_
            refine TL.nil ?_
            refine TQ.then ?_
            refine TC.condF rfl ?_
            refine TC.skip ?_
            refine TQ.block_normal ?_
            refine TQ.then ?_
            refine TC.region ?_   -- region 16 diff.go:169
            refine TL.opP rfl (op_add rfl rfl rfl (by omega) (by omega)) ?_
            refine TL.opP rfl (op_move rfl) ?_
            refine TL.nil ?_
            exact TQ.round (j + 1, n') (meet_row hmr hJ.2.1 hjl1 hj0 hj1 false (by simp [meetB]; omega)) (by show _ - (j + 1) < _ - j; omega) ⟨rfl, rfl, rfl, rfl, rfl, rfl, rfl, rfl, rfl, trivial⟩ (fun _ h => h.tail)
        · have hje : j = (strF (diffF base b)).length := by omega
          refine TC.exit ?_
          refine TQ.then_exit ?_
          refine TQ.loop_exit ?_
          refine TQ.block_hit ?_
          refine TQ.block_normal ?_
          refine TQ.then ?_
          refine TC.region ?_   -- region 17 diff.go:168
          refine TL.opP rfl (op_add rfl rfl rfl (by omega) (by omega)) ?_
          refine TL.opP rfl (op_move rfl) ?_
          refine TL.nil ?_
          exact TQ.round (i + 1, n') (meet_next hil1 hpi hI.2.2.1 hJ.2.1 (by omega) hn0 (by omega) (by omega)) (by show _ - (i + 1) < _ - i; omega) ⟨rfl, rfl, rfl, rfl, rfl, trivial⟩ (fun _ h => h.drop1.tail)
      · refine TC.exit ?_
        refine TQ.then_exit ?_
        refine TQ.loop_exit ?_
        refine TQ.block_hit ?_
        refine TQ.then ?_
        refine TC.seq ?_
        refine TC.region ?_   -- region 18 diff.go:175
        refine TL.opP rfl (op_move rfl) ?_
        refine TL.opP rfl (op_assign rfl) ?_
        refine TL.opP rfl (op_assign rfl) ?_
        refine TL.nil ?_
        refine TQ.then ?_
        refine TC.ret ?_
        refine ret2 rfl rfl rfl (fun w' hp => ?_)
        first
          | (have hk : meetE base a b = ck2 base a := if_pos c1
             exact ⟨_, _, rfl, ⟨by unfold meetF; rw [hk, if_neg (show ¬ ck2 base a = 0 from c1)]; rfl, rfl⟩, (hp.drop1.tail)⟩)
          | (have hk : meetE base a b = ck2 base b := if_neg c1
             exact ⟨_, _, rfl, ⟨by unfold meetF; rw [hk, if_neg (show ¬ ck2 base b = 0 from c2)]; rfl, rfl⟩, (hp.drop1.tail)⟩)
          | exact ⟨_, _, rfl, ⟨by rw [hk0, hkF, hI.2.1 (by omega)], rfl⟩, (hp.drop1.tail)⟩

theorem rck_calls (s : ByteArray) (hs : s.size ≤ 70368744177664) :
    CallX Tryd.prog 23 [.string s] S w0 (L) (fun u L' => u = .int .i64 (ckT s) ∧ L' = L) := by
  intro w hp
  have hrf := runesF_cases s
  refine calls_start Tryd.func23 rfl rfl rfl (hp) ?_
  refine TC.seq ?_
  refine TC.region ?_   -- region 0 ref.go:17
  refine TL.opP rfl (op_assign rfl) ?_
  refine TL.nil ?_
  refine TQ.then ?_
  refine TC.seq ?_
  refine TC.region ?_   -- region 1 ref.go:18
  refine TL.opP rfl (op_move rfl) ?_
  refine TL.opX rfl (OpX.bytes un_string tsl_uint8 un_uint8 rfl (by simp only [maxLen]; omega)) ?_; rintro v1 _ rfl
  refine TL.know (fun _ h => rd1' h) (fun o1 => ?_)
  refine TL.callq rfl en_64 rfl (fun w2 hp => runes_calls s.data.toList _ w2 (by rw [size_len]; exact rd0 _ _ _ hp)) ?_
  refine TL.opP rfl (op_assign rfl) ?_
  refine TL.nil ?_
  refine TQ.then ?_
  refine TC.seq ?_
  refine TC.seq ?_
  refine TC.region ?_   -- region 2 ref.go:19
  refine TL.opP rfl (op_move rfl) ?_
  refine TL.opP rfl (op_lss rfl rfl) ?_
  refine TL.nil ?_
  refine TQ.then ?_
  first | refine TC.condD rfl (fun c1 => ?_) (fun c1 => ?_) | refine TC.condB rfl (fun c1 => ?_) (fun c1 => ?_)
  · refine TC.seq ?_
    refine TC.region ?_   -- region 3 ref.go:20
    refine TL.opP rfl (op_assign rfl) ?_
    refine TL.nil ?_
    refine TQ.then ?_
    refine TC.ret ?_
    refine TQ.then_ret ?_
    refine ret1 rfl rfl (fun w' hp => ?_)
    exact ⟨_, _, rfl, ⟨by rw [ckT_of s]; first | (rw [if_pos c1]; done) | (rw [if_neg c1, if_pos c2]; done) | (rw [if_neg c1, if_neg c2]; done), rfl⟩, (hp.tail)⟩
  · refine TC.skip ?_
    refine TQ.then ?_
    refine TC.seq ?_
    refine TC.seq ?_
    refine TC.region ?_   -- region 4 ref.go:22
    refine TL.opP rfl (op_move rfl) ?_
    refine TL.opP rfl (op_gtr rfl rfl) ?_
    refine TL.nil ?_
    refine TQ.then ?_
    first | refine TC.condD rfl (fun c2 => ?_) (fun c2 => ?_) | refine TC.condB rfl (fun c2 => ?_) (fun c2 => ?_)
    · refine TC.seq ?_
      refine TC.region ?_   -- region 5 ref.go:23
      refine TL.opP rfl (op_assign rfl) ?_
      refine TL.nil ?_
      refine TQ.then ?_
      refine TC.ret ?_
      refine TQ.then_ret ?_
      refine ret1 rfl rfl (fun w' hp => ?_)
      exact ⟨_, _, rfl, ⟨by rw [ckT_of s]; first | (rw [if_pos c1]; done) | (rw [if_neg c1, if_pos c2]; done) | (rw [if_neg c1, if_neg c2]; done), rfl⟩, (hp.tail)⟩
    · refine TC.skip ?_
      refine TQ.then ?_
      refine TC.seq ?_
      refine TC.region ?_   -- region 6 ref.go:25
      refine TL.opP rfl (op_assign rfl) ?_
      refine TL.nil ?_
      refine TQ.then ?_
      refine TC.ret ?_
      refine ret1 rfl rfl (fun w' hp => ?_)
      exact ⟨_, _, rfl, ⟨by rw [ckT_of s]; first | (rw [if_pos c1]; done) | (rw [if_neg c1, if_pos c2]; done) | (rw [if_neg c1, if_neg c2]; done), rfl⟩, (hp.tail)⟩

end Go.SK
