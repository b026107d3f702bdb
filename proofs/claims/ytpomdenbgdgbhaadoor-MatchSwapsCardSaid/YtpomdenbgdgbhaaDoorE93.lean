/- Layer 12: words for the laws that hold the program's finds against the document's. -/
import Derived.Test.YtpomdenbgdgbhaaDoorE92
set_option linter.unusedVariables false
set_option linter.unusedSimpArgs false
set_option maxRecDepth 100000
namespace Go.SK
open Go Go.RowKit Go.Proofs
variable {S : Nat → Prop} {w0 : World} {F L : List Res}
section
variable {P : Program} {n : Nat} {l : FrL} {dst : Option Tmp} {t' : TypeId} {ty : TypeId} {pos : String} {af : Array Edge} {gd : Option (Nat × Bool)}
theorem op_beqB {t : TypeId} {x y : Operand} {a b : Bool} (ht : P.underlying t = some .bool) (hx : evO l x = some (.bool a)) (hy : evO l y = some (.bool b)) : OpP P n l ⟨dst, .binOp .eql t x y t', ty, pos, af, gd⟩ (.bool (a == b)) := fun q w ha => by
  have h1 : (Op.equal t (.bool a) (.bool b)).run P w = .ok (a == b) w := by
    unfold Op.equal
    rw [show Op.maxDepth = (Op.maxDepth - 1) + 1 from by decide]
    exact run_equalIn_bool' w _ t a b ht
  simp only [execOp, ha.eval hx, ha.eval hy, Sem.run_bind, eqGuard, binOp]
  simp [h1]
end
theorem cmp_both {s : ByteArray} {rs rx : List Res} {v x : Value} {i e j f : Int} (h : CmpRes s rs v i e) (h' : XCmpRes s rx x j f) (he : e = 0) :
    ∃ t g, PgG (progF t) g ∧ (progF t).length ≤ 3000 ∧ g ≤ 200 ∧ PgIn rs v (progF t) g ∧ XPgIn rx x (progF t) g := by
  unfold CmpRes at h
  unfold XCmpRes at h'
  cases hc : cmpF s with
  | err e' j => rw [hc] at h; exact absurd (h.1.symm.trans he) h.2.1
  | ok t j g =>
    rw [hc] at h h'
    obtain ⟨a, b, c⟩ := cmp_ok hc
    exact ⟨t, g, a, b, c, h.2.2, h'.2.2⟩
theorem rdb_nil1 (L : List Res) (sz : Nat) : Rdb L (.slice none 0 0) sz 0 [] := fun S w0 w h => ⟨by simp, none, 0, rfl, Nat.le_refl _, Nat.zero_le _, by simp, by simp⟩
theorem fd_rdb {rs : List Res} {fd : Option (List Int)} {v : Value} (h : FdOk rs fd v) (hz : fz rs ∈ L) : Rdb L v 1 (fd.getD []).length (ints (fd.getD [])) := by
  cases hf : fd with
  | none => rw [h.no hf]; exact rdb_nil1 L 1
  | some u => exact rdb_fz hz (h.yes u hf).1
theorem eq_zz {e f : Int} (h : e = f) : (decide (e = 0) == decide (f = 0)) = true := by rw [h]; exact beq_self_eq_true _
theorem allR_ris {pg : List StP} {G : Nat} (hG : PgG pg G) {s : ByteArray} : Ris (txF s).length G 0 (allR pg G s) := by
  unfold allR
  split
  · exact .nil 0 (Nat.zero_le _)
  · exact allF_ris hG
theorem allR_len {pg : List StP} {G : Nat} {s : ByteArray} : (allR pg G s).length ≤ (txF s).length + 1 := by
  unfold allR
  split
  · exact Nat.zero_le _
  · exact allGo_len _ _
theorem meq_calls (a b : List Int) (va vb : Value) (w : World) (ha : RdRow w va 1 a.length (ints a)) (hb : RdRow w vb 1 b.length (ints b)) :
    Calls Tryd.prog 60 (List.toArray [va, vb]) w fun e w' => e = .returned (.bool (decide (a = b))) ∧ Kp NoB w w' := by
 refine calls_start Tryd.func60 rfl rfl rfl (Hp.i2 (r := .rd va 1 a.length (ints a)) (s := .rd vb 1 b.length (ints b)) ha hb) ?_
 refine TC.seq (TC.region (TL.as rfl rfl (TL.nil (TQ.then (TC.seq (TC.region (TL.mv rfl rfl (TL.mv rfl rfl (TL.callq rfl en_24 rfl (fun w2 hp => weqints_calls a b va vb w2 (rd0 _ _ _ hp) (rd1 _ _ _ hp)) (TL.as rfl rfl (TL.nil (TQ.then (TC.ret ?_)))))))))))))
 refine ret1 rfl rfl (fun w' hp => ?_)
 exact ⟨rfl, hp.kp⟩

theorem weqf_x (a b : List AM) (va vb : Value) (hva : Rdb L va 1 a.length (a.map Prod.snd)) (hvb : Rdb L vb 1 b.length (b.map Prod.snd)) (hea : ∀ x ∈ a, Rdb L x.2 1 x.1.length (ints x.1)) (heb : ∀ x ∈ b, Rdb L x.2 1 x.1.length (ints x.1)) (hab : a.map Prod.fst = b.map Prod.fst) :
    CallX Tryd.prog 59 [va, vb, .func (.func 60) #[] #[]] S w0 (L) (fun u L' => u = .bool true ∧ L' = L) := by
 intro w hp
 have hlen := hva.lenLe hp
 have hl : a.length = b.length := by rw [← List.length_map (f := Prod.fst), hab, List.length_map]
 refine calls_start Tryd.func59 rfl rfl rfl (hp) ?_
 refine TC.seq (TC.region (TL.as rfl rfl (TL.nil (TQ.then (TC.seq (TC.seq (TC.region (TL.mv rfl rfl (TL.opV rfl (op_lenV rfl un_sl_sl_int rfl hva) (TL.mv rfl rfl (TL.opV rfl (op_lenV rfl un_sl_sl_int rfl hvb) (TL.opP rfl (op_neq rfl rfl) (TL.nil (TQ.then ?_))))))))))))))
 refine TC.sp rfl (fun c1 => ?_) (fun c1 => ?_)
 ·exact absurd (by omega) c1
 ·refine TC.skip (TQ.then (TC.seq (TC.seq (TC.region (TL.mv rfl rfl (TL.opV rfl (op_lenV rfl un_sl_sl_int rfl hva) (TL.mv rfl rfl (TL.nil (TQ.then (TC.block (TC.loop (ι := Nat) (fun k => [(0, va), (1, vb), (2, .func (.func 60) #[] #[]), (15, va), (16, .int .i64 (a.length : Int)), (17, .int .i64 (k : Int))]) (fun k => L) (fun k => k ≤ a.length) (fun k => a.length - k) (0) (Nat.zero_le _) ⟨rfl, rfl, rfl, rfl, rfl, rfl, trivial⟩ (fun _ h => h) ?_)))))))))))
  rintro k hk
  refine TC.seq (TC.region (TL.opP rfl (op_lss rfl rfl) (TL.nil (TQ.then (TC.seq ?_)))))
  refine TC.sp rfl (fun c2 => ?_) (fun c2 => ?_)
  ·obtain ⟨x, hx⟩ : ∃ x, a.getD k ([], nilS) = x := ⟨_, rfl⟩
   obtain ⟨y, hy⟩ : ∃ y, b.getD k ([], nilS) = y := ⟨_, rfl⟩
   obtain ⟨d1, hxm⟩ := drop_AM (am := a) (k := k) (by omega)
   obtain ⟨d2, hym⟩ := drop_AM (am := b) (k := k) (by omega)
   rw [hx] at d1 hxm
   rw [hy] at d2 hym
   rw [hab, d2] at d1
   have hxy : x.1 = y.1 := (List.cons.inj d1).1.symm
   refine TC.skip (TQ.then (TC.seq (TC.block (TC.seq (TC.region (TL.mv rfl rfl (TL.opV rfl (op_index tsl_sl_int rfl hva rfl (by omega) (by omega)) (TL.opV rfl (op_loadR ts_sl_int rfl hva (lkM (f := Prod.snd) (i := k) (d := ([], nilS)) (by omega) hx (by omega))) (TL.as rfl rfl (TL.as rfl rfl (TL.nil (TQ.then (TC.seq (TC.region (TL.mv rfl rfl (TL.mv rfl rfl (TL.opV rfl (op_index tsl_sl_int rfl hvb rfl (by omega) (by omega)) (TL.opV rfl (op_loadR ts_sl_int rfl hvb (lkM (f := Prod.snd) (i := k) (d := ([], nilS)) (by omega) hy (by omega))) (TL.as rfl rfl (TL.nil (TQ.then (TC.seq (TC.region (TL.mv rfl rfl (TL.opP rfl (op_move rfl) ?_)))))))))))))))))))))))))
   refine TL.opP rfl (op_move rfl) ?_
   refine TL.opX rfl (OpX.callqV rfl en_60 rfl (fun w2 hp => meq_calls x.1 y.1 _ _ w2 (hea x hxm _ _ _ hp) (heb y hym _ _ _ hp))) ?_; rintro _ _ ⟨rfl, rfl⟩
   refine TL.opP rfl (op_not rfl rfl) (TL.nil (TQ.then ?_))
   refine TC.sp rfl (fun c3 => ?_) (fun c3 => ?_)
   ·exact absurd c3 (by rw [hxy]; simp)
   ·refine TC.skip (TQ.block_normal (TQ.then (TC.region (TL.opP rfl (op_add rfl rfl rfl (by omega) (by omega)) (TL.mv rfl rfl (TL.nil ?_))))))
    exact TQ.round (k + 1) (by (try dsimp only); exact (show k + 1 ≤ a.length by omega)) (by show a.length - (k + 1) < a.length - k; omega) ⟨rfl, rfl, rfl, rfl, rfl, rfl, trivial⟩ (fun _ h => h)
  ·refine TC.exit (TQ.then_exit (TQ.loop_exit (TQ.block_hit (TQ.then (TC.seq (TC.region (TL.as rfl rfl (TL.nil (TQ.then (TC.ret ?_))))))))))
   refine ret1 rfl rfl (fun w' hp => ?_)
   exact ⟨_, _, rfl, ⟨rfl, rfl⟩, (hp)⟩

end Go.SK
