/- Walks: layer 12, threads followed. -/
import Derived.Test.YtpomdenbgdgbhaaDoorE66
set_option linter.unusedVariables false
set_option linter.unusedSimpArgs false
set_option maxRecDepth 100000
namespace Go.SK
open Go Go.RowKit Go.Proofs
variable {S : Nat → Prop} {w0 : World} {F L : List Res}
abbrev ints (l : List Int) : List Value := l.map (Value.int .i64)
section
variable {P : Program} {n : Nat} {l : FrL} {dst : Option Tmp} {ty t' : TypeId} {pos : String} {af : Array Edge} {gd : Option (Nat × Bool)} {x : Operand}
theorem OpX.eqNilB {t : TypeId} {v : Value} {sz m : Nat} {xs : List Value} (hx : evO l x = some v) (hr : Rdb L v sz m xs) (hq : ∀ (A : Option Addr) (c : Nat) (w : World), (binOp .eql t (.slice A m c) (.slice none 0 0)).run P w = .ok (.bool (decide (A = none))) w) :
    OpX P n l S w0 L ⟨dst, .binOp .eql t x (.const (.slice none 0 0)) t', ty, pos, af, gd⟩ (fun u L' => ∃ b, u = .bool b ∧ (b = true → m = 0) ∧ L' = L) := .of_run fun a w ha hp => by
  obtain ⟨hl, A, c, rfl, _, _, hA, _⟩ := hr S w0 w hp
  refine ⟨_, w, L, ?_, ⟨decide (A = none), rfl, fun hb => ?_, rfl⟩, hp⟩
  · have hg : (eqGuard .eql t x (.const (.slice none 0 0)) (.slice A m c) (.slice none 0 0)).run P w = .ok () w := by simp [eqGuard]
    have hc : a.eval (.const (.slice none 0 0)) = .slice none 0 0 := rfl
    simp only [execOp, ha.eval hx, hc, Sem.run_bind, hg, Result.andThen_ok, hq A c w, Sem.run_pure]
  · rcases Nat.eq_zero_or_pos m with h | h
    · exact h
    · obtain ⟨ad, h2⟩ := hA h
      rw [h2] at hb; simp at hb
end
theorem eq_nil_ints (m : Nat) (A : Option Addr) (c : Nat) (w : World) : (binOp .eql 29 (.slice A m c) (.slice none 0 0)).run Tryd.prog w = .ok (.bool (decide (A = none))) w := by
  cases A with
  | none => kernel_rfl
  | some a => kernel_rfl
theorem iclone_x (sv : List Int) (v : Value) (hl : sv.length ≤ 1048576) (hr : Rdb L v 1 sv.length (ints sv)) :
    CallX Tryd.prog 122 [v] S w0 (L) (fun u L' => ∃ v', u = v' ∧ v'.oneCell' = true ∧ L' = .row v' 3 1 (sv).length (ints (sv)) :: L) := by
 intro w hp
 refine calls_start Tryd.func122 rfl rfl rfl (hp) ?_
 refine TC.seq (TC.region (TL.as rfl rfl (TL.nil (TQ.then (TC.seq (TC.seq (TC.region (TL.opP rfl (op_move rfl) ?_))))))))
 refine TL.opX rfl (OpX.eqNilB rfl hr (eq_nil_ints _)) ?_; rintro _ _ ⟨b1, rfl, hb1, rfl⟩
 refine TL.nil (TQ.then ?_)
 refine TC.sp rfl (fun c1 => ?_) (fun c1 => ?_)
 ·refine TC.seq (TC.region (TL.as rfl rfl (TL.nil (TQ.then (TC.ret (TQ.then_ret ?_))))))
  refine ret1 rfl rfl (fun w' hp => ?_)
  first
    | (obtain rfl : sv = [] := List.length_eq_zero_iff.1 (hb1 (by assumption))
       exact ⟨_, _, rfl, ⟨.slice none 0 0, rfl, rfl, rfl⟩, new_nil _ 1 (hp)⟩)
    | exact ⟨_, _, rfl, ⟨_, rfl, by assumption, rfl⟩, (hp)⟩
 ·refine TC.skip (TQ.then (TC.seq (TC.region ?_)))
  refine TL.opX rfl (OpX.buildSlice (ps := #[]) rfl (bs_int_0 )) ?_; rintro _ _ ⟨g5, rfl, rfl⟩
  refine TL.hp (fun _ h => blk_row (k := 1) (m := 0) h rfl (by decide)) (TL.opP rfl (op_move rfl) ?_)
  refine TL.opX rfl (OpX.append (bytes := 8) tsl_int (by decide) (by decide) rfl hr.cons (ints_one _) (by omega) (zs := ints sv) rfl) ?_; rintro v2 _ rfl
  refine TL.know (fun _ h => row1 h) (fun o2 => (TL.hp (fun _ h => row_lenM h) (TL.as rfl rfl (TL.nil (TQ.then (TC.ret ?_))))))
  refine ret1 rfl rfl (fun w' hp => ?_)
  first
    | (obtain rfl : sv = [] := List.length_eq_zero_iff.1 (hb1 (by assumption))
       exact ⟨_, _, rfl, ⟨.slice none 0 0, rfl, rfl, rfl⟩, new_nil _ 1 (hp)⟩)
    | exact ⟨_, _, rfl, ⟨_, rfl, by assumption, rfl⟩, (hp)⟩

/-! ### Threads in memory -/
abbrev TM := Th × Value
def thC : List TM → List Value
  | [] => []
  | t :: r => .int .i64 (t.1.1 : Int) :: t.2 :: thC r
theorem thC_len : ∀ ts, (thC ts).length = ts.length * 2
  | [] => rfl
  | t :: r => by simp only [thC, List.length_cons, thC_len r]; omega
theorem thC_append : ∀ a b, thC (a ++ b) = thC a ++ thC b
  | [], b => rfl
  | t :: r, b => by simp only [thC, List.cons_append, thC_append r]
theorem thC_one {x : TM} (h : x.2.oneCell' = true) : ∀ u ∈ thC [x], u.oneCell' = true := by
  intro u hu
  simp only [thC, List.mem_cons, List.not_mem_nil, or_false] at hu
  rcases hu with rfl | rfl
  · rfl
  · exact h
theorem row_lenTH {w : World} {v : Value} {e m : Nat} {ts : List TM} (h : Hp S w0 w (.row v e 2 m (thC ts) :: L)) : Hp S w0 w (.row v e 2 ts.length (thC ts) :: L) := by
  have h1 : w.ownsRow 0 e 2 v m (thC ts) := h.at_ _ (.head _)
  have h2 : ts.length = m := by have := h1.1; rw [thC_len] at this; omega
  rw [h2]; exact h
theorem bs_match_thread_1 (x : TM) (h : x.2.oneCell' = true) : ∀ w : World, (Instr.buildSlice 183 1 #[(0, .agg #[.int .i64 (x.1.1 : Int), x.2])]).run Tryd.prog w = .ok (.slice (some ⟨w.heap.size, 0, none⟩) 1 1) (w.alloc (.cells (thC [x]).toArray 186 (0, 0))) := by
  obtain ⟨⟨a, s⟩, v⟩ := x
  cases v <;> first | (cases h; done) | (intro w; kernel_rfl)
def TmOk (rs : List Res) (x : TM) : Prop := x.2.oneCell' = true ∧ Res.rd x.2 1 x.1.2.length (ints x.1.2) ∈ rs
/-- Which steps were met at a place. -/
def stS (p : Nat) (se : List Int) : List Bool := se.map fun x => decide (x = ((p + 1 : Nat) : Int))
theorem stS_len (p : Nat) (se : List Int) : (stS p se).length = se.length := by simp [stS]
theorem stS_get {p a : Nat} {se : List Int} (h : a < se.length) : (stS p se).getD a true = decide (se.getD a 0 = ((p + 1 : Nat) : Int)) := by
  unfold stS
  rw [List.getD_eq_getElem?_getD, List.getElem?_map, List.getD_eq_getElem?_getD, List.getElem?_eq_getElem h]; rfl
theorem stS_set {p a : Nat} {se : List Int} : stS p (se.set a ((p + 1 : Nat) : Int)) = (stS p se).set a true := by unfold stS; rw [List.map_set, decide_eq_true rfl]
theorem ms_at {ms : List MS} {pg : List StP} {a j i : Nat} {v : Value} (hpg : ms.map Prod.fst = pg) (ha : a < ms.length) (hj : j < 5) (hi : i = a * 5 + j) (hv : ∀ m : MS, m.1 = stp pg a → (msC [m])[j]? = some v) : (msC ms)[i]? = some v := by
  subst hi
  have e : ms = ms.take a ++ ms[a] :: ms.drop (a + 1) := by rw [← List.drop_eq_getElem_cons ha, List.take_append_drop]
  have hm : (ms[a]).1 = stp pg a := by
    subst hpg
    show _ = (ms.map Prod.fst).getD a default
    rw [List.getD_eq_getElem?_getD, List.getElem?_map, List.getElem?_eq_getElem ha]; rfl
  have e2 : msC ms = msC (ms.take a) ++ (msC [ms[a]] ++ msC (ms.drop (a + 1))) := by
    conv => lhs; rw [e]
    rw [msC_append]; rfl
  have hl : (msC (ms.take a)).length = a * 5 := by rw [msC_len, List.length_take]; omega
  have h5 : (msC [ms[a]]).length = 5 := rfl
  rw [e2, List.getElem?_append_right (by omega), hl, show a * 5 + j - a * 5 = j by omega, List.getElem?_append_left (by omega)]
  exact hv _ hm
section
variable {ms : List MS} {pg : List StP} {a i : Nat}
theorem ms_k (hpg : ms.map Prod.fst = pg) (ha : a < ms.length) (hi : i = a * 5) : (msC ms)[i]? = some (.int .i64 (stp pg a).k) := ms_at hpg ha (by decide) (j := 0) hi (fun m h => by rw [← h]; rfl)
theorem ms_n (hpg : ms.map Prod.fst = pg) (ha : a < ms.length) (hi : i = a * 5 + 1) : (msC ms)[i]? = some (.bool (stp pg a).neg) := ms_at hpg ha (by decide) (j := 1) hi (fun m h => by rw [← h]; rfl)
theorem ms_x (hpg : ms.map Prod.fst = pg) (ha : a < ms.length) (hi : i = a * 5 + 3) : (msC ms)[i]? = some (.int .i64 ((stp pg a).x : Int)) := ms_at hpg ha (by decide) (j := 3) hi (fun m h => by rw [← h]; rfl)
theorem ms_y (hpg : ms.map Prod.fst = pg) (ha : a < ms.length) (hi : i = a * 5 + 4) : (msC ms)[i]? = some (.int .i64 ((stp pg a).y : Int)) := ms_at hpg ha (by decide) (j := 4) hi (fun m h => by rw [← h]; rfl)
end
structure FRes (rs rs' : List Res) (r : List Th × List Bool) (p : Nat) (se se' : List Int) (ks : List TM) : Prop where
  sub : rs ⊆ rs'
  ths : ks.map Prod.fst = r.1
  st : stS p se' = r.2
  le : ∀ x ∈ se', x ≤ ((p + 1 : Nat) : Int)
  ok : ∀ x ∈ ks, TmOk rs' x
  cnt : ks.length + r.2.count false ≤ (stS p se).count false
theorem TmOk.mono {rs rs' : List Res} {x : TM} (h : rs ⊆ rs') (hx : TmOk rs x) : TmOk rs' x := ⟨hx.1, h hx.2⟩
section
variable {pg : List StP} {tx : List Int} {p a f : Nat} {sv : List Int} {se se' : List Int} {rs rs' rs2 : List Res} {ks kz : List TM} {svv : Value}
theorem set_le (hle : ∀ x ∈ se, x ≤ ((p + 1 : Nat) : Int)) : ∀ x ∈ se.set a ((p + 1 : Nat) : Int), x ≤ ((p + 1 : Nat) : Int) := fun x hx => by
  rcases List.mem_or_eq_of_mem_set hx with hx | rfl
  · exact hle x hx
  · exact Int.le_refl _
theorem stS_cnt (ha : a < se.length) (hn : ¬ se.getD a 0 = ((p + 1 : Nat) : Int)) : (stS p (se.set a ((p + 1 : Nat) : Int))).count false + 1 = (stS p se).count false := by
  rw [stS_set]
  exact count_set (by rw [stS_get ha, decide_eq_false hn]; decide)
theorem fol_met (ha : a < se.length) (hm : se.getD a 0 = ((p + 1 : Nat) : Int)) (hle : ∀ x ∈ se, x ≤ ((p + 1 : Nat) : Int)) : FRes rs rs (folF pg tx p (f + 1) (stS p se) a sv) p se se [] := by
  have e : folF pg tx p (f + 1) (stS p se) a sv = ([], stS p se) := by rw [folF, if_pos (by rw [stS_get ha, decide_eq_true hm])]
  rw [e]
  exact ⟨fun _ h => h, rfl, rfl, hle, (fun x hx => by cases hx), by simp⟩
theorem fol_unmet (ha : a < se.length) (hn : ¬ se.getD a 0 = ((p + 1 : Nat) : Int)) : ¬ (stS p se).getD a true = true := by rw [stS_get ha, decide_eq_false hn]; decide
theorem fol_self (ha : a < se.length) (hn : ¬ se.getD a 0 = ((p + 1 : Nat) : Int)) (hle : ∀ x ∈ se, x ≤ ((p + 1 : Nat) : Int)) (h1 : ¬ (stp pg a).k = 1) (h2 : ¬ (stp pg a).k = 2) (h3 : ¬ (stp pg a).k = 3) (h4 : ¬ (stp pg a).k = 4) (hs : TmOk rs ((a, sv), svv)) :
    FRes rs rs (folF pg tx p (f + 1) (stS p se) a sv) p se (se.set a ((p + 1 : Nat) : Int)) [((a, sv), svv)] := by
  have e : folF pg tx p (f + 1) (stS p se) a sv = ([(a, sv)], (stS p se).set a true) := by rw [folF, if_neg (fol_unmet ha hn), if_neg h1, if_neg h2, if_neg h3, if_neg h4]
  have hc := stS_cnt ha hn
  rw [stS_set] at hc
  rw [e]
  exact ⟨fun _ h => h, rfl, stS_set, set_le hle, (fun x hx => by rw [List.mem_singleton.1 hx]; exact hs), by show 1 + List.count false ((stS p se).set a true) ≤ _; omega⟩
theorem fol_stop (ha : a < se.length) (hn : ¬ se.getD a 0 = ((p + 1 : Nat) : Int)) (hle : ∀ x ∈ se, x ≤ ((p + 1 : Nat) : Int)) (e : folF pg tx p (f + 1) (stS p se) a sv = ([], (stS p se).set a true)) : FRes rs rs (folF pg tx p (f + 1) (stS p se) a sv) p se (se.set a ((p + 1 : Nat) : Int)) [] := by
  have hc := stS_cnt ha hn
  rw [stS_set] at hc
  rw [e]
  exact ⟨fun _ h => h, rfl, stS_set, set_le hle, (fun x hx => by cases hx), by show 0 + List.count false ((stS p se).set a true) ≤ _; omega⟩
theorem fol_go {a' : Nat} {sv' : List Int} (ha : a < se.length) (hn : ¬ se.getD a 0 = ((p + 1 : Nat) : Int)) (e : folF pg tx p (f + 1) (stS p se) a sv = folF pg tx p f ((stS p se).set a true) a' sv') (hsub : rs ⊆ rs2) (h : FRes rs2 rs' (folF pg tx p f (stS p (se.set a ((p + 1 : Nat) : Int))) a' sv') p (se.set a ((p + 1 : Nat) : Int)) se' ks) :
    FRes rs rs' (folF pg tx p (f + 1) (stS p se) a sv) p se se' ks := by
  have hc := stS_cnt ha hn
  rw [e, ← stS_set]
  exact ⟨fun x hx => h.sub (hsub hx), h.ths, h.st, h.le, h.ok, by have := h.cnt; omega⟩
theorem fol_two {se2 : List Int} (ha : a < se.length) (hn : ¬ se.getD a 0 = ((p + 1 : Nat) : Int)) (hk : (stp pg a).k = 1) (hxy : (stp pg a).y ≠ (stp pg a).x) (h : FRes rs rs2 (folF pg tx p f (stS p (se.set a ((p + 1 : Nat) : Int))) (stp pg a).x sv) p (se.set a ((p + 1 : Nat) : Int)) se2 ks) (h' : FRes rs2 rs' (folF pg tx p f (stS p se2) (stp pg a).y sv) p se2 se' kz) :
    FRes rs rs' (folF pg tx p (f + 1) (stS p se) a sv) p se se' (ks ++ kz) := by
  have hc := stS_cnt ha hn
  have e : folF pg tx p (f + 1) (stS p se) a sv = ((folF pg tx p f (stS p (se.set a ((p + 1 : Nat) : Int))) (stp pg a).x sv).1 ++ (folF pg tx p f (stS p se2) (stp pg a).y sv).1, (folF pg tx p f (stS p se2) (stp pg a).y sv).2) := by
    rw [folF, if_neg (fol_unmet ha hn), if_pos hk, if_neg hxy, h.st, stS_set]
  have c1 := h.cnt
  have c2 := h'.cnt
  have c3 : (stS p se2).count false = (folF pg tx p f (stS p (se.set a ((p + 1 : Nat) : Int))) (stp pg a).x sv).2.count false := by rw [h.st]
  rw [e]
  refine ⟨fun x hx => h'.sub (h.sub hx), by rw [List.map_append, h.ths, h'.ths], h'.st, h'.le, fun x hx => ?_, by rw [List.length_append]; show _ + List.count false (folF pg tx p f (stS p se2) (stp pg a).y sv).2 ≤ _; omega⟩
  rcases List.mem_append.1 hx with hx | hx
  · exact (h.ok x hx).mono h'.sub
  · exact h'.ok x hx
end
/-- A pattern's steps, read by threads. -/
structure RunIn (rs : List Res) (pg : List StP) (G : Nat) (ms : List MS) (lv : Value) (pa gr : Nat) (tv sn : Value) : Prop where
  pok : PgOk pg G
  pgm : ms.map Prod.fst = pg
  mok : ∀ m ∈ ms, MsOk rs m
  pat : Res.blk pa (.cells [lv, .int .i64 (G : Int), .bool true].toArray 81 (0, 0)) ∈ rs
  stp : Res.rd lv 5 ms.length (msC ms) ∈ rs
  run : Res.blk gr (.cells [ptrV pa, tv, sn].toArray 182 (0, 0)) ∈ rs
theorem RunIn.mono {rs rs' : List Res} {pg : List StP} {G : Nat} {ms : List MS} {lv : Value} {pa gr : Nat} {tv sn : Value} (h : rs ⊆ rs') (R : RunIn rs pg G ms lv pa gr tv sn) : RunIn rs' pg G ms lv pa gr tv sn := ⟨R.pok, R.pgm, fun m hm => (R.mok m hm).mono h, h R.pat, h R.stp, h R.run⟩
theorem RunIn.len {rs : List Res} {pg : List StP} {G : Nat} {ms : List MS} {lv : Value} {pa gr : Nat} {tv sn : Value} (R : RunIn rs pg G ms lv pa gr tv sn) : ms.length = pg.length := by rw [← R.pgm, List.length_map]
abbrev seRow (sn : Value) (se : List Int) : Res := .row sn 3 1 se.length (ints se)
abbrev thRow (v : Value) (ts : List TM) : Res := .row v 186 2 ts.length (thC ts)
def HFol (pg : List StP) (G : Nat) (tx : List Int) (f : Nat) : Prop := ∀ (S : Nat → Prop) (w0 : World) (F : List Res) (rs : List Res) (ms : List MS) (lv : Value) (pa gr : Nat) (tv sn tl svv : Value) (se sv : List Int) (ts : List TM) (a p : Nat), RunIn rs pg G ms lv pa gr tv sn → Rdb F tv 1 tx.length (tx.map (Value.int .i32)) → tx.length ≤ 4096 → pg.length ≤ 3000 → a < pg.length → p ≤ tx.length → se.length = pg.length → (∀ x ∈ se, x ≤ ((p + 1 : Nat) : Int)) → sv.length = 2 * G + 2 → Res.rd svv 1 sv.length (ints sv) ∈ rs → svv.oneCell' = true → tl.oneCell' = true → ts.length + (stS p se).count false ≤ 10000 → (stS p se).count false < f →
  CallX Tryd.prog 121 [ptrV gr, tl, .int .i64 ((a : Nat) : Int), .int .i64 ((p : Nat) : Int), svv] S w0 (fz rs :: seRow sn se :: thRow tl ts :: F) (fun u L' => ∃ rs' ks se' tl', u = tl' ∧ FRes rs rs' (folF pg tx p f (stS p se) a sv) p se se' ks ∧ tl'.oneCell' = true ∧ se'.length = se.length ∧ L' = fz rs' :: seRow sn se' :: thRow tl' (ts ++ ks) :: F)
theorem mfollow_x (pg : List StP) (G : Nat) (tx : List Int) (f : Nat) (rs : List Res) (ms : List MS) (lv : Value) (pa gr : Nat) (tv sn tl svv : Value) (se sv : List Int) (ts : List TM) (a p : Nat) (R : RunIn rs pg G ms lv pa gr tv sn) (htx : Rdb F tv 1 tx.length (tx.map (Value.int .i32))) (htl : tx.length ≤ 4096) (hpl : pg.length ≤ 3000) (ha : a < pg.length) (hp0 : p ≤ tx.length) (hse : se.length = pg.length) (hle : ∀ x ∈ se, x ≤ ((p + 1 : Nat) : Int)) (hsvl : sv.length = 2 * G + 2) (hsv : Res.rd svv 1 sv.length (ints sv) ∈ rs) (hso : svv.oneCell' = true) (hto : tl.oneCell' = true) (hts : ts.length + (stS p se).count false ≤ 10000) (hf : (stS p se).count false < f + 1) (hG : G ≤ 200) (ih : HFol pg G tx f) :
    CallX Tryd.prog 121 [ptrV gr, tl, .int .i64 ((a : Nat) : Int), .int .i64 ((p : Nat) : Int), svv] S w0 (fz rs :: seRow sn (se) :: thRow tl (ts) :: F) (fun u L' => ∃ rs' ks se' tl', u = tl' ∧ FRes rs rs' (folF pg tx p (f + 1) (stS p se) a sv) p se se' ks ∧ tl'.oneCell' = true ∧ se'.length = se.length ∧ L' = fz rs' :: seRow sn se' :: thRow tl' (ts ++ ks) :: F) := by
 intro w hp
 have hrun := R.run
 have hpat := R.pat
 have hstp := R.stp
 have hmsl := R.len
 have hpgm := R.pgm
 have hget := stp_get ha
 refine calls_start Tryd.func121 rfl rfl rfl (hp) ?_
 refine TC.seq (TC.region (TL.as rfl rfl (TL.nil (TQ.then (TC.seq (TC.seq (TC.region (TL.mv rfl rfl (TL.opP rfl (op_nilCheck rfl) (TL.opP rfl (op_field fld_match_run_seen rfl) (TL.opV rfl (op_loadB ts_sl_int rfl (bkb_fz m0 hrun) rfl) (TL.mv rfl rfl (TL.opV rfl (op_index tsl_int rfl rw1 rfl (by omega) (by omega)) (TL.opV rfl (op_loadR ts_int rfl rw1 (lkM (f := Value.int .i64) (i := a) (d := 0) (by omega) rfl (by omega))) (TL.mv rfl rfl (TL.opP rfl (op_add (r := ((p + 1 : Nat) : Int)) rfl rfl (by omega) (by omega) (by omega)) (TL.opP rfl (op_eql rfl rfl) (TL.nil (TQ.then ?_)))))))))))))))))))
 refine TC.sp rfl (fun c1 => ?_) (fun c1 => ?_)
 ·refine TC.seq (TC.region (TL.mv rfl rfl (TL.as rfl rfl (TL.nil (TQ.then (TC.ret (TQ.then_ret ?_)))))))
  refine ret1 rfl rfl (fun w' hp => ?_)
  exact ⟨_, _, rfl, ⟨_, _, _, _, rfl, (fol_met (by omega) c1 hle), by assumption, by first | rfl | exact List.length_set | (simp only [List.length_set] at *; omega), rfl⟩, by have h := (hp); simpa only [List.append_assoc, List.append_nil] using h⟩
 ·have hc1 := stS_cnt (show a < se.length by omega) c1
  refine TC.skip (TQ.then (TC.seq (TC.region (TL.mv rfl rfl (TL.opP rfl (op_nilCheck rfl) (TL.opP rfl (op_field fld_match_run_seen rfl) (TL.opV rfl (op_loadB ts_sl_int rfl (bkb_fz m0 hrun) rfl) (TL.mv rfl rfl (TL.mv rfl rfl (TL.opP rfl (op_add (r := ((p + 1 : Nat) : Int)) rfl rfl (by omega) (by omega) (by omega)) (TL.opV rfl (op_index tsl_int rfl rw1 rfl (by omega) (by omega)) (TL.hp (fun _ h => h.pick1) ?_))))))))))))
  refine TL.opX0 (OpX.storeRow (k := 1) (fun w => by kernel_rfl) rfl rfl rfl (ys := [.int .i64 ((p + 1 : Nat) : Int)]) rfl (by decide) (List.all_eq_true.1 rfl) (by omega) (stM (i := a) (by omega) (by omega))) ?_; rintro _ _ rfl
  refine TL.hp (fun _ h => row_lenM h) (TL.nil (TQ.then (TC.seq (TC.seq (TC.region (TL.mv rfl rfl (TL.opP rfl (op_nilCheck rfl) (TL.opP rfl (op_field fld_match_run_p rfl) (TL.opV rfl (op_loadB ts_p_match_Pattern rfl (bkb_fz m1 hrun) rfl) (TL.opP rfl (op_nilCheck rfl) (TL.opP rfl (op_field fld_match_Pattern_l rfl) (TL.opV rfl (op_loadB ts_sl_match_step rfl (bkb_fz m1 hpat) rfl) (TL.mv rfl rfl (TL.opV rfl (op_index tsl_match_step rfl (rdb_fz m1 hstp) rfl (by omega) (by omega)) (TL.as rfl rfl (TL.nil (TQ.then (TC.seq (TC.region (TL.mv rfl rfl (TL.opP rfl (op_nilCheck rfl) (TL.opP rfl (op_fieldA fld_match_step_kind rfl) (TL.opV rfl (op_loadR ts_int rfl (rdb_fz m1 hstp) (ms_k (a := a) hpgm (by omega) (by omega))) ?_)))))))))))))))))))))))
  refine TL.nil (TQ.then (TC.block (TC.seq (TC.region (TL.opP rfl (op_eql rfl rfl) (TL.as rfl rfl (TL.nil (TQ.then ?_))))))))
  refine TC.sp rfl (fun c2 => ?_) (fun c2 => ?_)
  ·have hx := R.pok.x a _ hget (by omega)
   have hy := R.pok.y a _ hget c2
   refine TC.seq (TC.region (TL.mv rfl rfl (TL.mv rfl rfl (TL.mv rfl rfl (TL.opP rfl (op_nilCheck rfl) (TL.opP rfl (op_fieldA fld_match_step_x rfl) (TL.opV rfl (op_loadR ts_int rfl (rdb_fz m1 hstp) (ms_x (a := a) hpgm (by omega) (by omega))) (TL.mv rfl rfl (TL.mv rfl rfl (TL.hp (fun _ h => h.pick2.pick1.pick2) ?_))))))))))
   refine TL.opX rfl (OpX.callX en_121 rfl (ih _ _ _ (rs) ms lv pa gr tv sn tl svv ((se.set a ((p + 1 : Nat) : Int))) (sv) (ts) ((stp pg a).x) p (R) htx htl hpl hx hp0 (by rw [List.length_set]; exact hse) (set_le hle) (by first | exact hsvl | (rw [List.length_set]; exact hsvl)) hsv hso hto (by omega) (by omega))) ?_; rintro tlA1 _ ⟨rsA1, ksA1, seA1, _, rfl, hA1, hoA1, hlA1, rfl⟩
   replace hstp := hA1.sub hstp
   replace hrun := hA1.sub hrun
   replace hpat := hA1.sub hpat
   replace hsv := hA1.sub hsv
   have hlA2 : seA1.length = pg.length := hlA1.trans (by rw [List.length_set]; exact hse)
   have hcA := hA1.cnt
   rw [← hA1.st] at hcA
   refine TL.as rfl rfl (TL.nil (TQ.then (TC.seq (TC.seq (TC.draw [] (.cons (.p, 0) (.cons (.p, 1) (.cons (.p, 2) (.cons (.p, 4) (.cons (.p, 5) (.cons (.p, 6) (.cons (.t, 3) (.cons (.t, 7) (.cons (.p, 8) (.nil)))))))))) mo (by kernel_rfl) (TR.p rfl rfl wt0 (op_move rfl) (TR.p rfl rfl wt0 (op_nilCheck rfl) (TR.p rfl rfl wt0 (op_fieldA fld_match_step_y rfl) (TR.p rfl rfl wt0 (op_move rfl) (TR.p rfl rfl wt0 (op_nilCheck rfl) (TR.p rfl rfl wt0 (op_fieldA fld_match_step_x rfl) (TR.t rfl rfl wt0 (op_loadR ts_int rfl (rdb_fz m0 hstp) (ms_y (a := a) hpgm (by omega) (by omega))) (fun _ h => h) (TR.t rfl rfl wt0 (op_loadR ts_int rfl (rdb_fz m0 hstp) (ms_x (a := a) hpgm (by omega) (by omega))) (fun _ h => h) ?_)))))))))))))
   refine TR.p rfl rfl wt0 (op_neq rfl rfl) (TR.nil (TQ.then ?_))
   refine TC.sp rfl (fun c3 => ?_) (fun c3 => ?_)
   ·refine TC.region (TL.mv rfl rfl (TL.mv rfl rfl (TL.mv rfl rfl (TL.opP rfl (op_nilCheck rfl) (TL.opP rfl (op_fieldA fld_match_step_y rfl) (TL.opV rfl (op_loadR ts_int rfl (rdb_fz m0 hstp) (ms_y (a := a) hpgm (by omega) (by omega))) (TL.mv rfl rfl (TL.opP rfl (op_move rfl) ?_))))))))
    refine TL.opX rfl (OpX.callX en_121 rfl (ih _ _ _ (rsA1) ms lv pa gr tv sn tlA1 svv (seA1) (sv) (ts ++ ksA1) ((stp pg a).y) p (R.mono hA1.sub) htx htl hpl hy hp0 (by omega) hA1.le (by first | exact hsvl | (rw [List.length_set]; exact hsvl)) hsv hso hoA1 (by rw [List.length_append]; omega) (by omega))) ?_; rintro tlB2 _ ⟨rsB2, ksB2, seB2, _, rfl, hB2, hoB2, hlB2, rfl⟩
    refine TL.as rfl rfl (TL.nil (TQ.then (TC.seq (TC.region (TL.mv rfl rfl (TL.as rfl rfl (TL.nil (TQ.then (TC.ret (TQ.block_ret (TQ.then_ret ?_)))))))))))
    refine ret1 rfl rfl (fun w' hp => ?_)
    exact ⟨_, _, rfl, ⟨_, _, _, _, rfl, (fol_two (by omega) c1 c2 (by omega) hA1 hB2), by assumption, by first | rfl | exact List.length_set | (simp only [List.length_set] at *; omega), rfl⟩, by have h := (hp); simpa only [List.append_assoc, List.append_nil] using h⟩
   ·refine TC.skip (TQ.then (TC.seq (TC.region (TL.mv rfl rfl (TL.as rfl rfl (TL.nil (TQ.then (TC.ret (TQ.block_ret (TQ.then_ret ?_))))))))))
    refine ret1 rfl rfl (fun w' hp => ?_)
    exact ⟨_, _, rfl, ⟨_, _, _, _, rfl, (fol_go (by omega) c1 (by rw [folF, if_neg (fol_unmet (by omega) c1), if_pos c2, if_pos (by omega)]) (fun _ h => h) hA1), by assumption, by first | rfl | exact List.length_set | (simp only [List.length_set] at *; omega), rfl⟩, by have h := (hp); simpa only [List.append_assoc, List.append_nil] using h⟩
  ·refine TC.seq (TC.region (TL.opP rfl (op_eql rfl rfl) (TL.as rfl rfl (TL.nil (TQ.then ?_)))))
   refine TC.sp rfl (fun c4 => ?_) (fun c4 => ?_)
   ·have hx := R.pok.x a _ hget (by omega)
    have hsl := R.pok.sl a _ hget c4
    refine TC.seq (TC.region (TL.opP rfl (op_move rfl) ?_))
    refine TL.opX rfl (OpX.callX en_122 rfl (iclone_x sv svv (by omega) (rdb_fz m1 hsv))) ?_; rintro nw3 _ ⟨_, rfl, hno3, rfl⟩
    refine TL.as rfl rfl (TL.nil (TQ.then (TC.seq (TC.region (TL.mv rfl rfl (TL.mv rfl rfl (TL.opP rfl (op_nilCheck rfl) (TL.opP rfl (op_fieldA fld_match_step_y rfl) (TL.opV rfl (op_loadR ts_int rfl (rdb_fz m2 hstp) (ms_y (a := a) hpgm (by omega) (by omega))) (TL.mv rfl rfl (TL.opV rfl (op_index tsl_int rfl rw0 rfl (by omega) (by omega)) ?_)))))))))))
    refine TL.opX0 (OpX.storeRow (k := 1) (fun w => by kernel_rfl) rfl rfl rfl (ys := [.int .i64 ((p : Nat) : Int)]) rfl (by decide) (List.all_eq_true.1 rfl) (by omega) (stM (i := (stp pg a).y) (by omega) (by omega))) ?_; rintro _ _ rfl
    refine TL.hp (fun _ h => h.pick2.pick1) (TL.hp (fun _ h => fz_row (row_lenM h)) (TL.nil (TQ.then (TC.seq (TC.region ?_)))))
    replace hstp := List.mem_cons_of_mem (Res.rd nw3 1 (sv.set (stp pg a).y (p : Int)).length (ints (sv.set (stp pg a).y (p : Int)))) hstp
    refine TL.mv rfl rfl (TL.mv rfl rfl (TL.mv rfl rfl (TL.opP rfl (op_nilCheck rfl) (TL.opP rfl (op_fieldA fld_match_step_x rfl) (TL.opV rfl (op_loadR ts_int rfl (rdb_fz m0 hstp) (ms_x (a := a) hpgm (by omega) (by omega))) (TL.mv rfl rfl (TL.opP rfl (op_move rfl) ?_)))))))
    refine TL.opX rfl (OpX.callX en_121 rfl (ih _ _ _ (_) ms lv pa gr tv sn tl nw3 ((se.set a ((p + 1 : Nat) : Int))) (sv.set (stp pg a).y (p : Int)) (ts) ((stp pg a).x) p (R.mono (fun _ h => .tail _ h)) htx htl hpl hx hp0 (by rw [List.length_set]; exact hse) (set_le hle) (by first | exact hsvl | (rw [List.length_set]; exact hsvl)) (.head _) hno3 hto (by omega) (by omega))) ?_; rintro tlC4 _ ⟨rsC4, ksC4, seC4, _, rfl, hC4, hoC4, hlC4, rfl⟩
    refine TL.as rfl rfl (TL.nil (TQ.then (TC.ret (TQ.block_ret (TQ.then_ret ?_)))))
    refine ret1 rfl rfl (fun w' hp => ?_)
    exact ⟨_, _, rfl, ⟨_, _, _, _, rfl, (fol_go (by omega) c1 (by rw [folF, if_neg (fol_unmet (by omega) c1), if_neg c2, if_pos c4]) (fun _ h => .tail _ h) hC4), by assumption, by first | rfl | exact List.length_set | (simp only [List.length_set] at *; omega), rfl⟩, by have h := (hp); simpa only [List.append_assoc, List.append_nil] using h⟩
   ·refine TC.seq (TC.region (TL.opP rfl (op_eql rfl rfl) (TL.as rfl rfl (TL.nil (TQ.then ?_)))))
    refine TC.sp rfl (fun c5 => ?_) (fun c5 => ?_)
    ·have hx := R.pok.x a _ hget (by omega)
     refine TC.seq (TC.seq (TC.region (TL.mv rfl rfl (TL.opP rfl (op_eql rfl rfl) (TL.opP rfl (op_move rfl) ?_)))))
     refine TL.sp (fun c6 => ?_) (fun c6 => ?_)
     ·refine TL.gFt rfl rfl rfl (TL.gFt rfl rfl rfl (TL.gFt rfl rfl rfl (TL.gFt rfl rfl rfl (TL.gFt rfl rfl rfl (TL.gFt rfl rfl rfl (TL.gFt rfl rfl rfl (TL.gFt rfl rfl rfl (TL.gFt rfl rfl rfl (TL.opP rfl (op_pickT rfl rfl) (TL.nil (TQ.then (TC.condT rfl (TC.seq (TC.region (TL.mv rfl rfl (TL.mv rfl rfl (TL.mv rfl rfl (TL.opP rfl (op_nilCheck rfl) (TL.opP rfl (op_fieldA fld_match_step_x rfl) (TL.opV rfl (op_loadR ts_int rfl (rdb_fz m1 hstp) (ms_x (a := a) hpgm (by omega) (by omega))) (TL.mv rfl rfl (TL.mv rfl rfl (TL.hp (fun _ h => h.pick2.pick1.pick2) ?_)))))))))))))))))))))))
      refine TL.opX rfl (OpX.callX en_121 rfl (ih _ _ _ (rs) ms lv pa gr tv sn tl svv ((se.set a ((p + 1 : Nat) : Int))) (sv) (ts) ((stp pg a).x) p (R) htx htl hpl hx hp0 (by rw [List.length_set]; exact hse) (set_le hle) (by first | exact hsvl | (rw [List.length_set]; exact hsvl)) hsv hso hto (by omega) (by omega))) ?_; rintro tlA5 _ ⟨rsA5, ksA5, seA5, _, rfl, hA5, hoA5, hlA5, rfl⟩
      refine TL.as rfl rfl (TL.nil (TQ.then (TC.ret (TQ.then_ret (TQ.block_ret (TQ.then_ret ?_))))))
      refine ret1 rfl rfl (fun w' hp => ?_)
      exact ⟨_, _, rfl, ⟨_, _, _, _, rfl, (fol_go (by omega) c1 (by rw [folF, if_neg (fol_unmet (by omega) c1), if_neg c2, if_neg c4, if_pos c5, if_pos (show atBol tx p from .inl (by omega))]) (fun _ h => h) hA5), by assumption, by first | rfl | exact List.length_set | (simp only [List.length_set] at *; omega), rfl⟩, by have h := (hp); simpa only [List.append_assoc, List.append_nil] using h⟩
     ·refine TL.gT rfl rfl (TL.mv rfl rfl (TL.gT rfl rfl (TL.opP rfl (op_nilCheck rfl) (TL.gT rfl rfl (TL.opP rfl (op_field fld_match_run_text rfl) (TL.gT rfl rfl (TL.opV rfl (op_loadB ts_sl_int32 rfl (bkb_fz m1 hrun) rfl) (TL.gT rfl rfl (TL.mv rfl rfl (TL.gT rfl rfl (TL.opP rfl (op_sub (r := ((p - 1 : Nat) : Int)) rfl rfl (by omega) (by omega) (by omega)) (TL.gT rfl rfl (TL.opV rfl (op_index tsl_int32 rfl htx.cons.cons.cons rfl (by omega) (by omega)) (TL.gT rfl rfl (TL.opV rfl (op_loadR ts_int32 rfl htx.cons.cons.cons (lkM (i := p - 1) (d := 0) (by omega) rfl (by omega))) (TL.gT rfl rfl (TL.opP rfl (op_eql rfl rfl) (TL.opP rfl (op_pickF rfl rfl) (TL.nil (TQ.then ?_))))))))))))))))))))
      refine TC.sp rfl (fun c7 => ?_) (fun c7 => ?_)
      ·refine TC.seq (TC.region (TL.mv rfl rfl (TL.mv rfl rfl (TL.mv rfl rfl (TL.opP rfl (op_nilCheck rfl) (TL.opP rfl (op_fieldA fld_match_step_x rfl) (TL.opV rfl (op_loadR ts_int rfl (rdb_fz m1 hstp) (ms_x (a := a) hpgm (by omega) (by omega))) (TL.mv rfl rfl (TL.mv rfl rfl (TL.hp (fun _ h => h.pick2.pick1.pick2) ?_))))))))))
       refine TL.opX rfl (OpX.callX en_121 rfl (ih _ _ _ (rs) ms lv pa gr tv sn tl svv ((se.set a ((p + 1 : Nat) : Int))) (sv) (ts) ((stp pg a).x) p (R) htx htl hpl hx hp0 (by rw [List.length_set]; exact hse) (set_le hle) (by first | exact hsvl | (rw [List.length_set]; exact hsvl)) hsv hso hto (by omega) (by omega))) ?_; rintro tlA6 _ ⟨rsA6, ksA6, seA6, _, rfl, hA6, hoA6, hlA6, rfl⟩
       refine TL.as rfl rfl (TL.nil (TQ.then (TC.ret (TQ.then_ret (TQ.block_ret (TQ.then_ret ?_))))))
       refine ret1 rfl rfl (fun w' hp => ?_)
       exact ⟨_, _, rfl, ⟨_, _, _, _, rfl, (fol_go (by omega) c1 (by rw [folF, if_neg (fol_unmet (by omega) c1), if_neg c2, if_neg c4, if_pos c5, if_pos (show atBol tx p from .inr c7)]) (fun _ h => h) hA6), by assumption, by first | rfl | exact List.length_set | (simp only [List.length_set] at *; omega), rfl⟩, by have h := (hp); simpa only [List.append_assoc, List.append_nil] using h⟩
      ·refine TC.skip (TQ.then (TC.seq (TC.region (TL.mv rfl rfl (TL.as rfl rfl (TL.nil (TQ.then (TC.ret (TQ.block_ret (TQ.then_ret ?_))))))))))
       refine ret1 rfl rfl (fun w' hp => ?_)
       exact ⟨_, _, rfl, ⟨_, _, _, _, rfl, (fol_stop (by omega) c1 hle (by rw [folF, if_neg (fol_unmet (by omega) c1), if_neg c2, if_neg c4, if_pos c5, if_neg (show ¬ atBol tx p by rintro (h | h); omega; exact c7 h)])), by assumption, by first | rfl | exact List.length_set | (simp only [List.length_set] at *; omega), rfl⟩, by have h := (hp.pick2.pick1.pick2); simpa only [List.append_assoc, List.append_nil] using h⟩
    ·refine TC.seq (TC.region (TL.opP rfl (op_eql rfl rfl) (TL.as rfl rfl (TL.nil (TQ.then ?_)))))
     refine TC.sp rfl (fun c8 => ?_) (fun c8 => ?_)
     ·have hx := R.pok.x a _ hget (by omega)
      refine TC.seq (TC.seq (TC.region (TL.mv rfl rfl (TL.mv rfl rfl (TL.opP rfl (op_nilCheck rfl) (TL.opP rfl (op_field fld_match_run_text rfl) (TL.opV rfl (op_loadB ts_sl_int32 rfl (bkb_fz m1 hrun) rfl) (TL.opV rfl (op_lenV rfl un_sl_int32 rfl htx.cons.cons.cons) (TL.opP rfl (op_eql rfl rfl) (TL.opP rfl (op_move rfl) ?_))))))))))
      refine TL.sp (fun c9 => ?_) (fun c9 => ?_)
      ·refine TL.gFt rfl rfl rfl (TL.gFt rfl rfl rfl (TL.gFt rfl rfl rfl (TL.gFt rfl rfl rfl (TL.gFt rfl rfl rfl (TL.gFt rfl rfl rfl (TL.gFt rfl rfl rfl (TL.gFt rfl rfl rfl (TL.opP rfl (op_pickT rfl rfl) (TL.nil (TQ.then (TC.condT rfl (TC.seq (TC.region (TL.mv rfl rfl (TL.mv rfl rfl (TL.mv rfl rfl (TL.opP rfl (op_nilCheck rfl) (TL.opP rfl (op_fieldA fld_match_step_x rfl) (TL.opV rfl (op_loadR ts_int rfl (rdb_fz m1 hstp) (ms_x (a := a) hpgm (by omega) (by omega))) (TL.mv rfl rfl (TL.mv rfl rfl (TL.hp (fun _ h => h.pick2.pick1.pick2) ?_))))))))))))))))))))))
       refine TL.opX rfl (OpX.callX en_121 rfl (ih _ _ _ (rs) ms lv pa gr tv sn tl svv ((se.set a ((p + 1 : Nat) : Int))) (sv) (ts) ((stp pg a).x) p (R) htx htl hpl hx hp0 (by rw [List.length_set]; exact hse) (set_le hle) (by first | exact hsvl | (rw [List.length_set]; exact hsvl)) hsv hso hto (by omega) (by omega))) ?_; rintro tlA7 _ ⟨rsA7, ksA7, seA7, _, rfl, hA7, hoA7, hlA7, rfl⟩
       refine TL.as rfl rfl (TL.nil (TQ.then (TC.ret (TQ.then_ret (TQ.block_ret (TQ.then_ret ?_))))))
       refine ret1 rfl rfl (fun w' hp => ?_)
       exact ⟨_, _, rfl, ⟨_, _, _, _, rfl, (fol_go (by omega) c1 (by rw [folF, if_neg (fol_unmet (by omega) c1), if_neg c2, if_neg c4, if_neg c5, if_pos c8, if_pos (show atEol tx p from .inl (by omega))]) (fun _ h => h) hA7), by assumption, by first | rfl | exact List.length_set | (simp only [List.length_set] at *; omega), rfl⟩, by have h := (hp); simpa only [List.append_assoc, List.append_nil] using h⟩
      ·refine TL.gT rfl rfl (TL.mv rfl rfl (TL.gT rfl rfl (TL.opP rfl (op_nilCheck rfl) (TL.gT rfl rfl (TL.opP rfl (op_field fld_match_run_text rfl) (TL.gT rfl rfl (TL.opV rfl (op_loadB ts_sl_int32 rfl (bkb_fz m1 hrun) rfl) (TL.gT rfl rfl (TL.mv rfl rfl (TL.gT rfl rfl (TL.opV rfl (op_index tsl_int32 rfl htx.cons.cons.cons rfl (by omega) (by omega)) (TL.gT rfl rfl (TL.opV rfl (op_loadR ts_int32 rfl htx.cons.cons.cons (lkM (i := p) (d := 0) (by omega) rfl (by omega))) (TL.gT rfl rfl (TL.opP rfl (op_eql rfl rfl) (TL.opP rfl (op_pickF rfl rfl) (TL.nil (TQ.then ?_))))))))))))))))))
       refine TC.sp rfl (fun c10 => ?_) (fun c10 => ?_)
       ·refine TC.seq (TC.region (TL.mv rfl rfl (TL.mv rfl rfl (TL.mv rfl rfl (TL.opP rfl (op_nilCheck rfl) (TL.opP rfl (op_fieldA fld_match_step_x rfl) (TL.opV rfl (op_loadR ts_int rfl (rdb_fz m1 hstp) (ms_x (a := a) hpgm (by omega) (by omega))) (TL.mv rfl rfl (TL.mv rfl rfl (TL.hp (fun _ h => h.pick2.pick1.pick2) ?_))))))))))
        refine TL.opX rfl (OpX.callX en_121 rfl (ih _ _ _ (rs) ms lv pa gr tv sn tl svv ((se.set a ((p + 1 : Nat) : Int))) (sv) (ts) ((stp pg a).x) p (R) htx htl hpl hx hp0 (by rw [List.length_set]; exact hse) (set_le hle) (by first | exact hsvl | (rw [List.length_set]; exact hsvl)) hsv hso hto (by omega) (by omega))) ?_; rintro tlA8 _ ⟨rsA8, ksA8, seA8, _, rfl, hA8, hoA8, hlA8, rfl⟩
        refine TL.as rfl rfl (TL.nil (TQ.then (TC.ret (TQ.then_ret (TQ.block_ret (TQ.then_ret ?_))))))
        refine ret1 rfl rfl (fun w' hp => ?_)
        exact ⟨_, _, rfl, ⟨_, _, _, _, rfl, (fol_go (by omega) c1 (by rw [folF, if_neg (fol_unmet (by omega) c1), if_neg c2, if_neg c4, if_neg c5, if_pos c8, if_pos (show atEol tx p from .inr c10)]) (fun _ h => h) hA8), by assumption, by first | rfl | exact List.length_set | (simp only [List.length_set] at *; omega), rfl⟩, by have h := (hp); simpa only [List.append_assoc, List.append_nil] using h⟩
       ·refine TC.skip (TQ.then (TC.seq (TC.region (TL.mv rfl rfl (TL.as rfl rfl (TL.nil (TQ.then (TC.ret (TQ.block_ret (TQ.then_ret ?_))))))))))
        refine ret1 rfl rfl (fun w' hp => ?_)
        exact ⟨_, _, rfl, ⟨_, _, _, _, rfl, (fol_stop (by omega) c1 hle (by rw [folF, if_neg (fol_unmet (by omega) c1), if_neg c2, if_neg c4, if_neg c5, if_pos c8, if_neg (show ¬ atEol tx p by rintro (h | h); omega; exact c10 h)])), by assumption, by first | rfl | exact List.length_set | (simp only [List.length_set] at *; omega), rfl⟩, by have h := (hp.pick2.pick1.pick2); simpa only [List.append_assoc, List.append_nil] using h⟩
     ·refine TC.skip (TQ.block_normal (TQ.then (TC.seq (TC.region (TL.mv rfl rfl (TL.mv rfl rfl (TL.mv rfl rfl (TL.opP rfl (op_build (ps := #[(0, _), (1, _)]) rfl (bl_match_thread_01 _ _)) ?_))))))))
      refine TL.opX rfl (OpX.buildSlice (ps := #[(0, _)]) rfl (bs_match_thread_1 ((a, sv), svv) hso)) ?_; rintro _ _ ⟨g153, rfl, rfl⟩
      refine TL.hp (fun _ h => blk_row (k := 2) (m := 1) h rfl (by decide)) (TL.hp (fun _ h => h.pick3) ?_)
      refine TL.opX rfl (OpX.append (bytes := 32) tsl_match_thread (by decide) (by decide) rfl rw1 (thC_one hso) (by omega) (zs := thC (ts ++ [((a, sv), svv)])) (thC_append _ _).symm) ?_; rintro v9 _ rfl
      refine TL.know (fun _ h => row1 h) (fun o9 => (TL.hp (fun _ h => row_lenTH h) (TL.as rfl rfl (TL.nil (TQ.then (TC.ret ?_))))))
      refine ret1 rfl rfl (fun w' hp => ?_)
      exact ⟨_, _, rfl, ⟨_, _, _, _, rfl, (fol_self (by omega) c1 hle c2 c4 c5 c8 ⟨hso, hsv⟩), by assumption, by first | rfl | exact List.length_set | (simp only [List.length_set] at *; omega), rfl⟩, by have h := (hp.drop1.pick1.pick2); simpa only [List.append_assoc, List.append_nil] using h⟩

theorem hfol {pg : List StP} {G : Nat} (tx : List Int) (hG : G ≤ 200) : ∀ f, HFol pg G tx f
  | 0 => fun S w0 F rs ms lv pa gr tv sn tl svv se sv ts a p R htx htl hpl ha hp0 hse hle hsvl hsv hso hto hts hf => by omega
  | f + 1 => fun S w0 F rs ms lv pa gr tv sn tl svv se sv ts a p R htx htl hpl ha hp0 hse hle hsvl hsv hso hto hts hf => mfollow_x pg G tx f rs ms lv pa gr tv sn tl svv se sv ts a p R htx htl hpl ha hp0 hse hle hsvl hsv hso hto hts hf hG (hfol tx hG f)
end Go.SK
