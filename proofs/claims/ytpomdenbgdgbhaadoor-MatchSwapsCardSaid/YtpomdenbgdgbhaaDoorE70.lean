/- Walks: layer 12, from a place on. -/
import Derived.Test.YtpomdenbgdgbhaaDoorE69
set_option linter.unusedVariables false
set_option linter.unusedSimpArgs false
set_option maxRecDepth 100000
namespace Go.SK
open Go Go.RowKit Go.Proofs
variable {S : Nat → Prop} {w0 : World} {F L : List Res}
theorem made_ints (n : Nat) : (madeCells (Value.int .i64 0).cells (n * 1)).toList = ints (List.replicate n 0) := by
  show _ = (List.replicate n 0).map (Value.int .i64)
  rw [Nat.mul_one, List.map_replicate]
  exact toList_madeCells_one _ n
theorem set_take {l : List Int} {i : Nat} {x : Int} (h : i < l.length) : (l.set i x).take (i + 1) = l.take i ++ [x] := by
  rw [List.set_eq_take_append_cons_drop, if_pos h, List.take_append]
  have : (l.take i).length = i := by rw [List.length_take]; omega
  rw [this, List.take_of_length_le (by omega), show i + 1 - i = 1 by omega]; rfl
theorem sv0_set {l : List Int} {G p : Nat} (h : l = List.replicate (2 * G + 2) (-1)) : l.set 0 (p : Int) = sv0 G p := by subst h; rfl
structure FdOk (rs : List Res) (fd : Option (List Int)) (fv : Value) : Prop where
  one : fv.oneCell' = true
  no : fd = none → fv = nilS
  yes : ∀ v, fd = some v → Res.rd fv 1 v.length (ints v) ∈ rs ∧ ∃ ad m c, fv = .slice (some ad) m c
theorem FdOk.mono {rs rs' : List Res} {fd : Option (List Int)} {fv : Value} (h : rs ⊆ rs') (H : FdOk rs fd fv) : FdOk rs' fd fv := ⟨H.one, H.no, fun v hv => ⟨h (H.yes v hv).1, (H.yes v hv).2⟩⟩
theorem thC_at {ts : List TM} {i k : Nat} {d : TM} (h : i < ts.length) (hk : k = i * 2) : ((thC ts).drop k).take 2 = [.int .i64 ((ts.getD i d).1.1 : Int), (ts.getD i d).2] := by
  subst hk
  induction ts generalizing i with
  | nil => simp at h
  | cons a r ih =>
    cases i with
    | zero => rfl
    | succ i =>
      have := ih (i := i) (by simpa using h)
      rw [show (i + 1) * 2 = i * 2 + 2 by omega]
      exact this
theorem stS_none {p : Nat} {se : List Int} {n : Nat} (hl : se.length = n) (h : ∀ x ∈ se, x ≤ (p : Int)) : stS p se = List.replicate n false := by
  subst hl
  unfold stS
  rw [List.eq_replicate_iff]
  refine ⟨List.length_map _, fun b hb => ?_⟩
  obtain ⟨x, hx, rfl⟩ := List.mem_map.1 hb
  have := h x hx
  exact decide_eq_false (by omega)
abbrev dTM : TM := ((0, []), nilS)
theorem drop_TM {ts : List TM} {i : Nat} (h : i < ts.length) : (ts.map Prod.fst).drop i = (ts.getD i dTM).1 :: (ts.map Prod.fst).drop (i + 1) ∧ ts.getD i dTM ∈ ts := by
  have h' : i < (ts.map Prod.fst).length := by rw [List.length_map]; exact h
  rw [List.drop_eq_getElem_cons h', List.getD_eq_getElem?_getD, List.getElem?_eq_getElem h]
  exact ⟨by simp, List.getElem_mem h⟩
section
variable {pg : List StP} {tx : List Int} {N p : Nat} {t : Th} {T nx : List Th} {Sx : List Bool}
theorem inner_done (h : (stp pg t.1).k = 5) : inner pg tx N p (t :: T) nx Sx = (nx, Sx, some (t.2.set 1 p)) := by rw [inner, if_pos h]
theorem inner_eat (h : ¬ (stp pg t.1).k = 5) (he : eats pg tx t.1 p) : inner pg tx N p (t :: T) nx Sx = inner pg tx N p T (nx ++ (folF pg tx (p + 1) N Sx (stp pg t.1).x t.2).1) (folF pg tx (p + 1) N Sx (stp pg t.1).x t.2).2 := by rw [inner, if_neg h, if_pos he]
theorem inner_no (h : ¬ (stp pg t.1).k = 5) (he : ¬ eats pg tx t.1 p) : inner pg tx N p (t :: T) nx Sx = inner pg tx N p T nx Sx := by rw [inner, if_neg h, if_neg he]
theorem inner_end (hp : ¬ p < tx.length) : ∀ (T nx : List Th) (Sx : List Bool), (inner pg tx N p T nx Sx).1 = nx
  | [], nx, Sx => rfl
  | t :: T, nx, Sx => by
    rw [inner]
    split
    · rfl
    · rw [if_neg (fun h => hp h.1)]; exact inner_end hp T nx Sx
theorem bfs_nil {fd : Option (List Int)} : ∀ (d : Nat), bfs pg tx N d p [] fd = fd
  | 0 => rfl
  | d + 1 => by rw [bfs, if_pos rfl]
theorem bfs_on {fd : Option (List Int)} {d : Nat} (h : T ≠ []) : bfs pg tx N (d + 1) p T fd = bfs pg tx N d (p + 1) (inner pg tx N p T [] (freshS pg)).1 ((inner pg tx N p T [] (freshS pg)).2.2 <|> fd) := by rw [bfs, if_neg h]
end
/-- The threads at a place of the text. -/
structure FrI {pg : List StP} {G : Nat} (h : PgG pg G) (tx : List Int) (p0 : Nat) (rs : List Res) (ms : List MS) (lv : Value) (pa gr : Nat) (tv sn : Value) (p : Nat) (ts : List TM) (tl : Value) (se : List Int) (fd : Option (List Int)) (fv : Value) (rs1 : List Res) : Prop where
  lo : p0 ≤ p
  hi : p ≤ tx.length + 1
  en : p = tx.length + 1 → ts = []
  R : RunIn rs1 pg G ms lv pa gr tv sn
  sub : rs ⊆ rs1
  sel : se.length = pg.length
  sele : ∀ x ∈ se, x ≤ ((p + 1 : Nat) : Int)
  ok : ∀ x ∈ ts, TmOk rs1 x
  inv : ∀ t ∈ ts.map Prod.fst, ThI h p0 p t.1 t.2 ∧ (stp pg t.1).k ≠ 2
  len : ts.length ≤ 3000
  one : tl.oneCell' = true
  fdo : FdOk rs1 fd fv
  eq : bfs pg tx (pg.length + 1) (tx.length + 1 - p) p (ts.map Prod.fst) fd = fromF pg G tx p0
/-- Threads gone through at a place. -/
structure FrJ {pg : List StP} {G : Nat} (h : PgG pg G) (tx : List Int) (p0 : Nat) (rs : List Res) (ms : List MS) (lv : Value) (pa gr : Nat) (tv sn : Value) (p : Nat) (nx : List TM) (nl : Value) (se : List Int) (rs3 : List Res) : Prop where
  R : RunIn rs3 pg G ms lv pa gr tv sn
  sub : rs ⊆ rs3
  sel : se.length = pg.length
  sele : ∀ x ∈ se, x ≤ ((p + 1 + 1 : Nat) : Int)
  ok : ∀ x ∈ nx, TmOk rs3 x
  inv : ∀ t ∈ nx.map Prod.fst, ThI h p0 (p + 1) t.1 t.2 ∧ (stp pg t.1).k ≠ 2
  one : nl.oneCell' = true
  cnt : nx.length + (stS (p + 1) se).count false ≤ 3000
section
variable {pg : List StP} {G : Nat} {h : PgG pg G} {tx : List Int} {p0 p gr pa : Nat} {rs rs1 rs3 : List Res} {ms : List MS} {lv tv sn tl nl fv fv' : Value} {ts nx : List TM} {se se' : List Int} {fd fd' : Option (List Int)}
theorem FrI.start (I : FrI h tx p0 rs ms lv pa gr tv sn p ts tl se fd fv rs1) (hpl : pg.length ≤ 3000) : FrJ h tx p0 rs1 ms lv pa gr tv sn p [] nilS se rs1 ∧ inner pg tx (pg.length + 1) p ((ts.map Prod.fst).drop 0) (([] : List TM).map Prod.fst) (stS (p + 1) se) = inner pg tx (pg.length + 1) p (ts.map Prod.fst) [] (freshS pg) := by
  have hf : stS (p + 1) se = List.replicate pg.length false := stS_none I.sel (fun x hx => I.sele x hx)
  refine ⟨⟨I.R, fun _ h => h, I.sel, fun x hx => by have := I.sele x hx; omega, (fun x hx => by cases hx), (fun t ht => by cases ht), rfl, ?_⟩, ?_⟩
  · rw [hf, List.count_replicate]; simp; exact hpl
  · rw [hf]; rfl
theorem FrI.next (I : FrI h tx p0 rs ms lv pa gr tv sn p ts tl se fd fv rs1) (hts : ts ≠ []) (J : FrJ h tx p0 rs1 ms lv pa gr tv sn p nx nl se' rs3) (h1 : (inner pg tx (pg.length + 1) p (ts.map Prod.fst) [] (freshS pg)).1 = nx.map Prod.fst) (h2 : ((inner pg tx (pg.length + 1) p (ts.map Prod.fst) [] (freshS pg)).2.2 <|> fd) = fd') (hF : FdOk rs3 fd' fv') :
    FrI h tx p0 rs ms lv pa gr tv sn (p + 1) nx nl se' fd' fv' rs3 := by
  have hp : p ≤ tx.length := by
    rcases Nat.lt_or_ge tx.length p with hq | hq
    · exact absurd (I.en (by have := I.hi; omega)) hts
    · exact hq
  refine ⟨by have := I.lo; omega, by omega, fun e => ?_, J.R, fun x hx => J.sub (I.sub hx), J.sel, J.sele, J.ok, J.inv, by have := J.cnt; omega, J.one, hF, ?_⟩
  · have := inner_end (pg := pg) (tx := tx) (N := pg.length + 1) (p := p) (by omega) (ts.map Prod.fst) [] (freshS pg)
    rw [h1] at this
    exact List.map_eq_nil_iff.1 this
  · rw [← I.eq, show tx.length + 1 - p = (tx.length + 1 - (p + 1)) + 1 by omega, bfs_on (by simpa using hts), h1, h2]
theorem FrI.end_ (I : FrI h tx p0 rs ms lv pa gr tv sn p ts tl se fd fv rs1) (hts : ts = []) : FdOk rs1 (fromF pg G tx p0) fv := by
  have := I.eq
  rw [hts, List.map_nil, bfs_nil] at this
  rw [← this]; exact I.fdo
end
theorem st0 {p n m : Nat} (h : n = m) : stS p (List.replicate n (0 : Int)) = List.replicate m false := stS_none (by rw [List.length_replicate]; exact h) (fun x hx => by rw [(List.mem_replicate.1 hx).2]; omega)
theorem FrI.init {pg : List StP} {G : Nat} (h : PgG pg G) {tx : List Int} {p0 gr pa : Nat} {rs rs2 rsA : List Res} {ms : List MS} {lv tv sn tl : Value} {ks : List TM} {se : List Int} (hp0 : p0 ≤ tx.length) (RI : RunIn rs2 pg G ms lv pa gr tv sn) (hrs : rs ⊆ rs2) (hA : FRes rs2 rsA (folF pg tx p0 (pg.length + 1) (stS p0 (List.replicate ms.length 0)) 0 (sv0 G p0)) p0 (List.replicate ms.length 0) se ks) (hl : se.length = (List.replicate ms.length (0 : Int)).length) (hms : ms.length = pg.length) (hpl : pg.length ≤ 3000) (ho : tl.oneCell' = true) :
    FrI h tx p0 rs ms lv pa gr tv sn p0 ks tl se none nilS rsA := by
  have hc := hA.cnt
  have ht := hA.ths
  rw [st0 hms] at hc ht
  rw [List.count_replicate_self] at hc
  refine ⟨Nat.le_refl _, by omega, fun e => by omega, RI.mono hA.sub, fun x hx => hA.sub (hrs hx), by rw [hl, List.length_replicate]; exact hms, hA.le, hA.ok, fun t ht' => ?_, by omega, ho, ⟨rfl, fun _ => rfl, fun v hv => by cases hv⟩, ?_⟩
  · rw [ht] at ht'
    exact fol_inv (h := h) (p0 := p0) _ _ 0 (sv0 G p0) (sv0_ok h) t ht'
  · rw [ht]; rfl
theorem hold_of {s : StP} {c : Int} (h : ¬ inS s.set c = s.neg) : holdsP s c = true := by unfold holdsP; simpa using h
theorem hold_not {s : StP} {c : Int} (h : inS s.set c = s.neg) : ¬ holdsP s c = true := by unfold holdsP; simpa using h
theorem one_two {a : Int} {v : Value} (h : v.oneCell' = true) : ∀ u ∈ [Value.int .i64 a, v], u.oneCell' = true := fun u hu => by
  rcases List.mem_cons.1 hu with rfl | hu
  · rfl
  · rw [List.mem_singleton.1 hu]; exact h
section
variable {pg : List StP} {G : Nat} {h : PgG pg G} {tx : List Int} {p0 p gr pa i : Nat} {rs1 rs3 rs4 : List Res} {ms : List MS} {lv tv sn nl nl' : Value} {nx ks : List TM} {se se' : List Int} {T : List Th} {x : TM} {fd : Option (List Int)}
theorem FrJ.mono (J : FrJ h tx p0 rs1 ms lv pa gr tv sn p nx nl se rs3) (hs : rs3 ⊆ rs4) : FrJ h tx p0 rs1 ms lv pa gr tv sn p nx nl se rs4 := ⟨J.R.mono hs, fun y hy => hs (J.sub hy), J.sel, J.sele, fun y hy => (J.ok y hy).mono hs, J.inv, J.one, J.cnt⟩
theorem fd_new {w1 : Value} {v : List Int} {rs : List Res} (ho : w1.oneCell' = true) (hs : ∃ A c, w1 = .slice A v.length c ∧ (0 < v.length → ∃ ad, A = some ad)) (hl : 0 < v.length) : FdOk (.rd w1 1 v.length (ints v) :: rs) (some v) w1 :=
  ⟨ho, (fun e => by cases e), fun u hu => by
    cases hu
    obtain ⟨A, c, e, hA⟩ := hs
    obtain ⟨ad, rfl⟩ := hA hl
    exact ⟨.head _, ad, _, c, e⟩⟩
theorem FrJ.eat (J : FrJ h tx p0 rs1 ms lv pa gr tv sn p nx nl se rs3) (h5 : ¬ (stp pg x.1.1).k = 5) (hx : ThI h p0 p x.1.1 x.1.2 ∧ (stp pg x.1.1).k ≠ 2) (hB : FRes rs3 rs4 (folF pg tx (p + 1) (pg.length + 1) (stS (p + 1) se) (stp pg x.1.1).x x.1.2) (p + 1) se se' ks) (hl : se'.length = se.length) (ho : nl'.oneCell' = true) : FrJ h tx p0 rs1 ms lv pa gr tv sn p (nx ++ ks) nl' se' rs4 := by
  have c1 := hB.cnt
  have c2 := J.cnt
  rw [← hB.st] at c1
  refine ⟨J.R.mono hB.sub, fun y hy => hB.sub (J.sub hy), hl.trans J.sel, hB.le, fun y hy => ?_, fun t ht => ?_, ho, by rw [List.length_append]; omega⟩
  · rcases List.mem_append.1 hy with hy | hy
    · exact (J.ok y hy).mono hB.sub
    · exact hB.ok y hy
  · rw [List.map_append] at ht
    rcases List.mem_append.1 ht with ht | ht
    · exact J.inv t ht
    · rw [hB.ths] at ht
      exact fol_inv (h := h) (p0 := p0) _ _ _ _ ((hx.1.x hx.2 h5).mono (by omega)) t ht
theorem inner_on (h5 : ¬ (stp pg x.1.1).k = 5) (he : eats pg tx x.1.1 p) (hB : FRes rs3 rs4 (folF pg tx (p + 1) (pg.length + 1) (stS (p + 1) se) (stp pg x.1.1).x x.1.2) (p + 1) se se' ks) : inner pg tx (pg.length + 1) p (x.1 :: T) (nx.map Prod.fst) (stS (p + 1) se) = inner pg tx (pg.length + 1) p T ((nx ++ ks).map Prod.fst) (stS (p + 1) se') := by
  rw [inner_eat h5 he, List.map_append, hB.ths, hB.st]
end
theorem mfrom_x (pg : List StP) (G : Nat) (tx : List Int) (rs : List Res) (ms : List MS) (lv : Value) (pa : Nat) (tv : Value) (p0 : Nat) (hG : PgG pg G) (hpgm : ms.map Prod.fst = pg) (hmok : ∀ m ∈ ms, MsOk rs m) (hpat0 : Res.blk pa (.cells [lv, .int .i64 (G : Int), .bool true].toArray 81 (0, 0)) ∈ rs) (hstp0 : Res.rd lv 5 ms.length (msC ms) ∈ rs) (htx : Rdb F tv 1 tx.length (tx.map (Value.int .i32))) (htl : tx.length ≤ 4096) (hpl : pg.length ≤ 3000) (hG2 : G ≤ 200) (hp0 : p0 ≤ tx.length) :
    CallX Tryd.prog 89 [ptrV pa, tv, .int .i64 ((p0 : Nat) : Int)] S w0 (fz rs :: F) (fun u L' => ∃ rs' v', u = v' ∧ rs ⊆ rs' ∧ FdOk rs' (fromF pg G tx p0) v' ∧ L' = fz rs' :: F) := by
 intro w hp
 have hpat := hpat0
 have hstp := hstp0
 have hmsl : ms.length = pg.length := by rw [← hpgm, List.length_map]
 have htv := htx.cons.one hp
 refine calls_start Tryd.func89 rfl rfl rfl (hp) ?_
 refine TC.seq (TC.region (TL.as rfl rfl (TL.nil (TQ.then (TC.seq (TC.region (TL.mv rfl rfl (TL.mv rfl rfl (TL.mv rfl rfl (TL.opP rfl (op_nilCheck rfl) (TL.opP rfl (op_field fld_match_Pattern_l rfl) (TL.opV rfl (op_loadB ts_sl_match_step rfl (bkb_fz m0 hpat) rfl) (TL.opV rfl (op_lenV rfl un_sl_match_step rfl (rdb_fz m0 hstp)) ?_)))))))))))))
 refine TL.opX rfl (OpX.make (m := ms.length) (zs := (ints (List.replicate ms.length 0))) tsl_int rfl rfl rfl (by decide) (by omega) (made_ints _)) ?_; rintro v1 _ rfl
 refine TL.know (fun _ h => row1 h) (fun o1 => (TL.hp (fun _ h => row_lenM h) (TL.opP rfl (op_build (ps := #[(0, _), (1, _), (2, _)]) rfl (bl_match_run_012 _ _ _)) ?_)))
 refine TL.opX rfl (OpX.box (cs := _) rfl rfl) ?_; rintro _ _ ⟨g25, rfl, rfl⟩
 refine TL.hp (fun _ h => h.pick2.pick1) (TL.hp (fun _ h => fz_blk h) (TL.as rfl rfl (TL.nil (TQ.then (TC.seq (TC.region ?_))))))
 have hrs2 : rs ⊆ (Res.blk g25 (.cells [ptrV pa, tv, v1].toArray 182 (0, 0)) :: rs) := fun x hx => .tail _ hx
 replace hpat := hrs2 hpat
 replace hstp := hrs2 hstp
 have RI : RunIn (Res.blk g25 (.cells [ptrV pa, tv, v1].toArray 182 (0, 0)) :: rs) pg G ms lv pa g25 tv v1 := ⟨hG.toPgOk, hpgm, fun m hm => (hmok m hm).mono hrs2, hpat, hstp, .head _⟩
 refine TL.mv rfl rfl (TL.opP rfl (op_nilCheck rfl) (TL.opP rfl (op_field fld_match_Pattern_groups rfl) (TL.opV rfl (op_loadB ts_int rfl (bkb_fz m0 hpat) rfl) (TL.opP rfl (op_mul (r := ((2 * G : Nat) : Int)) rfl rfl (by omega) (by omega) (by omega)) (TL.opP rfl (op_add (r := ((2 * G + 2 : Nat) : Int)) rfl rfl (by omega) (by omega) (by omega)) ?_)))))
 refine TL.opX rfl (OpX.make (m := (2 * G + 2)) (zs := (ints (List.replicate (2 * G + 2) 0))) tsl_int rfl rfl rfl (by decide) (by omega) (made_ints _)) ?_; rintro v2 _ rfl
 refine TL.know (fun _ h => row1 h) (fun o2 => (TL.hp (fun _ h => row_lenM h) (TL.as rfl rfl (TL.nil (TQ.then (TC.seq (TC.seq (TC.region (TL.mv rfl rfl (TL.opV rfl (op_lenV rfl un_sl_int rfl rw0) (TL.mv rfl rfl (TL.nil (TQ.then (TC.block (TC.loop (ι := Nat × List Int) (fun (i, sl) => [(0, ptrV pa), (1, tv), (2, .int .i64 ((p0 : Nat) : Int)), (7, ptrV g25), (8, v2), (34, .int .i64 ((2 * G + 2 : Nat) : Int)), (35, .int .i64 (i : Int))]) (fun (i, sl) => .row v2 3 1 (sl).length (ints (sl)) :: fz (.blk g25 (.cells [ptrV pa, tv, v1].toArray 182 (0, 0)) :: rs) :: seRow v1 (List.replicate ms.length 0) :: F) (fun (i, sl) => i ≤ 2 * G + 2 ∧ sl.length = 2 * G + 2 ∧ sl.take i = List.replicate i (-1)) (fun (i, sl) => 2 * G + 2 - i) ((0, List.replicate (2 * G + 2) 0)) (⟨Nat.zero_le _, List.length_replicate, rfl⟩) ⟨rfl, rfl, rfl, rfl, rfl, gi rfl (by rw [List.length_replicate]), rfl, trivial⟩ (fun _ h => h) ?_)))))))))))))))
 rintro ⟨i, sl⟩ ⟨hi, hsl, htk⟩
 show TC _ _ _ _ [(0, ptrV pa), (1, tv), (2, .int .i64 ((p0 : Nat) : Int)), (7, ptrV g25), (8, v2), (34, .int .i64 ((2 * G + 2 : Nat) : Int)), (35, .int .i64 (i : Int))] _ _ (.row v2 3 1 (sl).length (ints (sl)) :: fz (.blk g25 (.cells [ptrV pa, tv, v1].toArray 182 (0, 0)) :: rs) :: seRow v1 (List.replicate ms.length 0) :: F)
 refine TC.seq (TC.region (TL.opP rfl (op_lss rfl rfl) (TL.nil (TQ.then (TC.seq ?_)))))
 first | refine TC.condD rfl (fun c1 => ?_) (fun c1 => ?_) | refine TC.condN rfl (fun c1 => ?_) (fun c1 => ?_) | refine TC.condB rfl (fun c1 => ?_) (fun c1 => ?_)
 ·refine TC.skip (TQ.then (TC.seq (TC.block (TC.seq (TC.region (TL.mv rfl rfl (TL.as rfl rfl (TL.nil (TQ.then (TC.region (TL.mv rfl rfl (TL.mv rfl rfl (TL.opV rfl (op_index tsl_int rfl rw0 rfl (by omega) (by omega)) ?_)))))))))))))
  refine TL.opX0 (OpX.storeRow (k := 1) (fun w => by kernel_rfl) rfl rfl rfl (ys := [.int .i64 (-1)]) rfl (by decide) (List.all_eq_true.1 rfl) (by omega) (stM (i := i) (by omega) (by omega))) ?_; rintro _ _ rfl
  refine TL.hp (fun _ h => row_lenM h) (TL.nil (TQ.block_normal (TQ.then (TC.region (TL.opP rfl (op_add rfl rfl rfl (by omega) (by omega)) (TL.mv rfl rfl (TL.nil ?_)))))))
  exact TQ.round (i + 1, sl.set i (-1)) (⟨by omega, by rw [List.length_set]; exact hsl, by rw [set_take (by omega), htk, List.replicate_succ']⟩) (by show _ - (i + 1) < _ - i; omega) ⟨rfl, rfl, rfl, rfl, rfl, rfl, rfl, trivial⟩ (fun _ h => h)
 ·have hsl2 : sl = List.replicate (2 * G + 2) (-1) := by
    obtain rfl : i = 2 * G + 2 := by omega
    rw [List.take_of_length_le (by omega)] at htk
    exact htk
  have hs0 := sv0_set (p := p0) hsl2
  have hst0 := st0 (p := p0) hmsl
  refine TC.exit (TQ.then_exit (TQ.loop_exit (TQ.block_hit (TQ.then (TC.seq (TC.region (TL.mv rfl rfl (TL.mv rfl rfl (TL.opV rfl (op_index tsl_int rfl rw0 rfl (by omega) (by omega)) ?_)))))))))
  refine TL.opX0 (OpX.storeRow (k := 1) (fun w => by kernel_rfl) rfl rfl rfl (ys := [.int .i64 ((p0 : Nat) : Int)]) rfl (by decide) (List.all_eq_true.1 rfl) (by omega) (stM (i := 0) (by omega) (by omega))) ?_; rintro _ _ rfl
  refine TL.hp (fun _ h => row_lenM h) ?_
  rw [hs0]
  refine TL.hp (fun _ h => fz_row h) (TL.nil (TQ.then (TC.seq (TC.region (TL.hp (fun _ h => new_nil 186 2 h) (TL.mv rfl rfl (TL.mv rfl rfl (TL.mv rfl rfl (TL.hp (fun _ h => h.pick2.pick2) ?_)))))))))
  refine TL.opX rfl (OpX.callX en_121 rfl (hfol tx hG2 (pg.length + 1) _ _ _ _ ms lv pa g25 tv v1 nilS v2 (List.replicate ms.length 0) (sv0 G p0) [] 0 p0 (RI.mono (fun _ h => .tail _ h)) htx htl hpl hG.pos hp0 (by rw [List.length_replicate]; exact hmsl) (fun x hx => by rw [(List.mem_replicate.1 hx).2]; omega) (sv0_len G p0) (.head _) (by assumption) rfl (by rw [hst0, List.count_replicate_self]; simp; omega) (by rw [hst0, List.count_replicate_self]; omega))) ?_; rintro tlA3 _ ⟨rsA3, ksA3, seA3, _, rfl, hA3, hoA3, hlA3, rfl⟩
  refine TL.as rfl rfl (TL.nil (TQ.then (TC.seq (TC.region (TL.as rfl rfl (TL.nil (TQ.then (TC.seq (TC.block (TC.loop (ι := Nat × List TM × Value × List Int × Option (List Int) × Value × List Res) (fun (p, ts, tl, se, fd, fv, rs1) => [(0, ptrV pa), (1, tv), (2, .int .i64 ((p : Nat) : Int)), (7, ptrV g25), (10, tl), (11, fv)]) (fun (p, ts, tl, se, fd, fv, rs1) => fz rs1 :: seRow v1 (se) :: thRow tl (ts) :: F) (fun (p, ts, tl, se, fd, fv, rs1) => FrI hG tx p0 rs ms lv pa g25 tv v1 p ts tl se fd fv rs1) (fun (p, ts, tl, se, fd, fv, rs1) => tx.length + 2 - p) ((p0, ksA3, tlA3, seA3, none, nilS, rsA3)) (FrI.init hG hp0 (RI.mono (fun _ h => .tail _ h)) (fun x hx => .tail _ (hrs2 hx)) hA3 hlA3 hmsl hpl hoA3) ⟨rfl, rfl, rfl, rfl, rfl, rfl, trivial⟩ (fun _ h => h) ?_))))))))))
  clear hs0 hsl2 htk hst0 RI hrs2 hpat hstp
  rintro ⟨p, ts, tl, se, fd, fv, rs1⟩ (I : FrI hG tx p0 rs ms lv pa g25 tv v1 p ts tl se fd fv rs1)
  have hlo := I.lo
  have hhi := I.hi
  have htsl := I.len
  show TC _ _ _ _ [(0, ptrV pa), (1, tv), (2, .int .i64 ((p : Nat) : Int)), (7, ptrV g25), (10, tl), (11, fv)] _ _ (fz rs1 :: seRow v1 (se) :: thRow tl (ts) :: F)
  refine TC.seq (TC.seq (TC.region (TL.mv rfl rfl (TL.opV rfl (op_lenV rfl un_sl_match_thread rfl rw2) (TL.opP rfl (op_gtr rfl rfl) (TL.nil (TQ.then ?_)))))))
  first | refine TC.condD rfl (fun c2 => ?_) (fun c2 => ?_) | refine TC.condN rfl (fun c2 => ?_) (fun c2 => ?_) | refine TC.condB rfl (fun c2 => ?_) (fun c2 => ?_)
  ·have hts : ts ≠ [] := by
     intro e
     rw [e] at c2
     simp at c2
   have hple : p ≤ tx.length := by
     rcases Nat.lt_or_ge tx.length p with hq | hq
     · exact absurd (I.en (by omega)) hts
     · exact hq
   refine TC.skip (TQ.then (TC.seq (TC.block (TC.seq (TC.region (TL.as rfl rfl (TL.nil (TQ.then ?_))))))))
   refine TC.join (ι := List TM × Value × List Int × Option (List Int) × Value × List Res) (fun (nx, nl, se', fd', fv', rs3) => [(0, ptrV pa), (1, tv), (2, .int .i64 ((p : Nat) : Int)), (7, ptrV g25), (11, fv'), (12, nl)]) (fun (nx, nl, se', fd', fv', rs3) => thRow nl nx :: fz rs3 :: seRow v1 (se') :: F) (fun (nx, nl, se', fd', fv', rs3) => FrJ hG tx p0 rs1 ms lv pa g25 tv v1 p nx nl se' rs3 ∧ (inner pg tx (pg.length + 1) p (ts.map Prod.fst) [] (freshS pg)).1 = nx.map Prod.fst ∧ ((inner pg tx (pg.length + 1) p (ts.map Prod.fst) [] (freshS pg)).2.2 <|> fd) = fd' ∧ FdOk rs3 fd' fv') ?_ ?_
   ·refine TC.seq (TC.region (TL.mv rfl rfl (TL.opV rfl (op_lenV rfl un_sl_match_thread rfl rw2) (TL.mv rfl rfl (TL.nil (TQ.then (TC.block (TC.hp (fun _ h => new_nil 186 2 h) (TC.loop (ι := Nat × List TM × Value × List Int × List Res) (fun (i, nx, nl, se3, rs3) => [(0, ptrV pa), (1, tv), (2, .int .i64 ((p : Nat) : Int)), (7, ptrV g25), (11, fv), (12, nl), (54, tl), (55, .int .i64 (ts.length : Int)), (56, .int .i64 (i : Int))]) (fun (i, nx, nl, se3, rs3) => thRow nl nx :: fz rs3 :: seRow v1 (se3) :: thRow tl (ts) :: F) (fun (i, nx, nl, se3, rs3) => i ≤ ts.length ∧ FrJ hG tx p0 rs1 ms lv pa g25 tv v1 p nx nl se3 rs3 ∧ inner pg tx (pg.length + 1) p ((ts.map Prod.fst).drop i) (nx.map Prod.fst) (stS (p + 1) se3) = inner pg tx (pg.length + 1) p (ts.map Prod.fst) [] (freshS pg)) (fun (i, nx, nl, se3, rs3) => ts.length - i) ((0, [], nilS, se, rs1)) (⟨Nat.zero_le _, (I.start hpl).1, (I.start hpl).2⟩) ⟨rfl, rfl, rfl, rfl, rfl, rfl, rfl, rfl, rfl, trivial⟩ (fun _ h => h) ?_)))))))))
    rintro ⟨i, nx, nl, se3, rs3⟩ ⟨hi, J, hin⟩
    have hrun := J.R.run
    have hpat := J.R.pat
    have hstp := J.R.stp
    show TC _ _ _ _ [(0, ptrV pa), (1, tv), (2, .int .i64 ((p : Nat) : Int)), (7, ptrV g25), (11, fv), (12, nl), (54, tl), (55, .int .i64 (ts.length : Int)), (56, .int .i64 (i : Int))] _ _ (thRow nl nx :: fz rs3 :: seRow v1 (se3) :: thRow tl (ts) :: F)
    refine TC.seq (TC.region (TL.opP rfl (op_lss rfl rfl) (TL.nil (TQ.then (TC.seq ?_)))))
    first | refine TC.condD rfl (fun c3 => ?_) (fun c3 => ?_) | refine TC.condN rfl (fun c3 => ?_) (fun c3 => ?_) | refine TC.condB rfl (fun c3 => ?_) (fun c3 => ?_)
    ·obtain ⟨hd1, hd2⟩ := drop_TM (ts := ts) (i := i) (by omega)
     obtain ⟨x, hx⟩ : ∃ x, ts.getD i dTM = x := ⟨_, rfl⟩
     rw [hx] at hd1 hd2
     have hxo := (I.ok _ hd2).mono J.sub
     have hsv3 := hxo.2
     have hso := hxo.1
     have hth := I.inv _ (List.mem_map_of_mem hd2)
     have hxa := hth.1.at_
     have hxl := hth.1.len
     rw [hd1] at hin
     refine TC.skip (TQ.then (TC.seq (TC.block (TC.seq (TC.region (TL.opV rfl (op_index tsl_match_thread rfl rw3 rfl (by omega) (by omega)) (TL.opV rfl (op_loadRS tst_match_thread rfl rw3 (cs := [.int .i64 (x.1.1 : Int), x.2]) rfl (by rw [thC_at (i := i) (d := dTM) (by omega) (by omega), hx]) (by decide)) ?_)))))))
     refine TL.opX rfl (OpX.alloc tz_match_thread rfl) ?_; rintro _ _ ⟨g14, rfl, rfl⟩
     refine TL.opX0 (OpX.storeS tst_match_thread rfl rfl rfl rfl rfl (one_two hso)) ?_; rintro _ _ rfl
     refine TL.nil (TQ.then (TC.seq (TC.draw [] (.cons (.p, 0) (.cons (.p, 1) (.cons (.p, 2) (.cons (.p, 4) (.cons (.t, 3) (.cons (.t, 5) (.cons (.t, 6) (.cons (.p, 7) (.nil))))))))) mo (by kernel_rfl) (TR.p rfl rfl wt0 (op_move rfl) (TR.p rfl rfl wt0 (op_nilCheck rfl) (TR.p rfl rfl wt0 (op_field fld_match_Pattern_l rfl) (TR.p rfl rfl wt0 (op_field fld_match_thread_at rfl) (TR.t rfl rfl wt0 (op_loadB ts_sl_match_step rfl (bkb_fz m2 hpat) rfl) (fun _ h => h) (TR.t rfl rfl wt0 (op_load ts_int rfl m0 rfl) (fun _ h => h) (TR.t rfl rfl wt0 (op_index tsl_match_step rfl (rdb_fz m2 hstp) rfl (by omega) (by omega)) (fun _ h => h) (TR.p rfl rfl wt0 (op_assign rfl) (TR.nil (TQ.then (TC.seq (TC.seq (TC.region (TL.opP rfl (op_move rfl) ?_)))))))))))))))))
     refine TL.opP rfl (op_nilCheck rfl) (TL.opP rfl (op_fieldA fld_match_step_kind rfl) (TL.opV rfl (op_loadR ts_int rfl (rdb_fz m2 hstp) (ms_k (a := x.1.1) hpgm (by omega) (by omega))) (TL.opP rfl (op_eql rfl rfl) (TL.nil (TQ.then ?_)))))
     first | refine TC.condD rfl (fun c4 => ?_) (fun c4 => ?_) | refine TC.condN rfl (fun c4 => ?_) (fun c4 => ?_) | refine TC.condB rfl (fun c4 => ?_) (fun c4 => ?_)
     ·refine TC.seq (TC.region (TL.opP rfl (op_field fld_match_thread_saved rfl) (TL.opV rfl (op_load ts_sl_int rfl m0 rfl) ?_)))
      refine TL.opX rfl (OpX.callX en_122 rfl (iclone_x x.1.2 x.2 (by omega) (rdb_fz m2 hsv3))) ?_; rintro nw4 _ ⟨_, rfl, hno4, rfl⟩
      refine TL.as rfl rfl (TL.nil (TQ.then (TC.seq (TC.region (TL.mv rfl rfl (TL.mv rfl rfl (TL.opV rfl (op_index tsl_int rfl rw0 rfl (by omega) (by omega)) ?_)))))))
      refine TL.opX0 (OpX.storeRow (k := 1) (fun w => by kernel_rfl) rfl rfl rfl (ys := [.int .i64 ((p : Nat) : Int)]) rfl (by decide) (List.all_eq_true.1 rfl) (by omega) (stM (i := 1) (by omega) (by omega))) ?_; rintro _ _ rfl
      refine TL.hp (fun _ h => h.pick3.pick1) (TL.hp (fun _ h => row_lenM h) ?_)
      refine TL.know (fun _ h => row_shape h) (fun hshp => (TL.hp (fun _ h => fz_row h) (TL.nil (TQ.then (TC.exit (TQ.then_exit (TQ.block_miss rfl (TQ.then_exit (TQ.loop_exit (TQ.block_hit ?_))))))))))
      exact TQ.join (nx, nl, se3, some (x.1.2.set 1 (p : Int)), nw4, _) (⟨J.mono (fun _ h => .tail _ h), by rw [← hin, inner_done c4], by rw [← hin, inner_done c4]; rfl, fd_new hno4 hshp (by rw [List.length_set]; omega)⟩) ⟨rfl, rfl, rfl, rfl, rfl, rfl, trivial⟩ (fun _ h => h.drop4.drop1.pick2.pick1.pick2)
     ·refine TC.skip (TQ.then (TC.seq (TC.region (TL.mv rfl rfl (TL.mv rfl rfl (TL.opV rfl (op_lenV rfl un_sl_int32 rfl htx.cons.cons.cons.cons.cons) (TL.opP rfl (op_lss rfl rfl) (TL.opP rfl (op_move rfl) ?_))))))))
      first | refine TL.splitD (fun c5 => ?_) (fun c5 => ?_) | refine TL.splitN (fun c5 => ?_) (fun c5 => ?_) | refine TL.splitB (fun c5 => ?_) (fun c5 => ?_)
      ·refine TL.gT rfl rfl (TL.mv rfl rfl (TL.gT rfl rfl (TL.mv rfl rfl (TL.gT rfl rfl (TL.mv rfl rfl (TL.gT rfl rfl (TL.opV rfl (op_index tsl_int32 rfl htx.cons.cons.cons.cons.cons rfl (by omega) (by omega)) (TL.gT rfl rfl (TL.opV rfl (op_loadR ts_int32 rfl htx.cons.cons.cons.cons.cons (lkM (i := p) (d := 0) (by omega) rfl (by omega))) (TL.gT rfl rfl ?_))))))))))
       refine TL.opX rfl (OpX.callX en_123 rfl (sin_x pg rs3 ms lv x.1.1 (tx.getD p 0) m2 hpgm J.R.mok hstp (by omega))) ?_; rintro _ _ ⟨rfl, rfl⟩
       refine TL.opP rfl (op_pickT rfl rfl) (TL.nil (TQ.then ?_))
       first | refine TC.condD rfl (fun c6 => ?_) (fun c6 => ?_) | refine TC.condN rfl (fun c6 => ?_) (fun c6 => ?_) | refine TC.condB rfl (fun c6 => ?_) (fun c6 => ?_)
       ·refine TC.draw [10] (.cons (.p, 0) (.cons (.p, 1) (.cons (.p, 2) (.cons (.p, 3) (.cons (.p, 4) (.cons (.p, 6) (.cons (.p, 7) (.cons (.p, 8) (.cons (.t, 5) (.cons (.t, 9) (.cons (.z, 10) (.cons (.p, 11) (.nil))))))))))))) mo (by kernel_rfl) (TR.p rfl rfl wt0 (op_move rfl) (TR.p rfl rfl wt0 (op_move rfl) (TR.p rfl rfl wt0 (op_move rfl) (TR.p rfl rfl wt0 (op_nilCheck rfl) (TR.p rfl rfl wt0 (op_fieldA fld_match_step_x rfl) (TR.p rfl rfl wt0 (op_move rfl) (TR.p rfl rfl wt0 (op_add (r := ((p + 1 : Nat) : Int)) rfl rfl (by omega) (by omega) (by omega)) (TR.p rfl rfl wt0 (op_field fld_match_thread_saved rfl) (TR.t rfl rfl wt0 (op_loadR ts_int rfl (rdb_fz m2 hstp) (ms_x (a := x.1.1) hpgm (by omega) (by omega))) (fun _ h => h) ?_)))))))))
        refine TR.t rfl rfl wt0 (op_load ts_sl_int rfl m0 rfl) (fun _ h => h) (TR.hp (fun _ h => h.pick1.pick3.pick3) ?_)
        refine TR.z rfl rfl wt0 (OpX.callX en_121 rfl (hfol tx hG2 (pg.length + 1) _ _ _ rs3 ms lv pa g25 tv v1 nl x.2 se3 x.1.2 nx (stp pg x.1.1).x (p + 1) J.R htx.cons.cons htl hpl (hG.x _ _ (stp_get hxa) c4) (by omega) J.sel J.sele hxl hsv3 hso J.one (by have := J.cnt; omega) (by have := List.count_le_length (a := false) (l := stS (p + 1) se3); rw [stS_len, J.sel] at this; omega))) ?_; rintro tlB6 _ ⟨rsB6, ksB6, seB6, _, rfl, hB6, hoB6, hlB6, rfl⟩
        refine TR.p rfl rfl wt0 (op_assign rfl) (TR.nil (TQ.block_normal (TQ.then (TC.region (TL.opP rfl (op_add rfl rfl rfl (by omega) (by omega)) (TL.mv rfl rfl (TL.nil ?_)))))))
        exact TQ.round (i + 1, nx ++ ksB6, tlB6, seB6, rsB6) (⟨by omega, J.eat c4 hth hB6 hlB6 hoB6, by rw [← hin, inner_on c4 ⟨by omega, hold_of c6⟩ hB6]⟩) (by show _ - (i + 1) < _ - i; omega) ⟨rfl, rfl, rfl, rfl, rfl, rfl, rfl, rfl, rfl, trivial⟩ (fun _ h => h.drop3.pick3.pick2.pick2.pick3)
       ·refine TC.skip (TQ.block_normal (TQ.then (TC.region (TL.opP rfl (op_add rfl rfl rfl (by omega) (by omega)) (TL.mv rfl rfl (TL.nil ?_))))))
        exact TQ.round (i + 1, nx, nl, se3, rs3) (⟨by omega, J, by rw [← hin, inner_no c4 (fun h => hold_not c6 h.2)]⟩) (by show _ - (i + 1) < _ - i; omega) ⟨rfl, rfl, rfl, rfl, rfl, rfl, rfl, rfl, rfl, trivial⟩ (fun _ h => h.tail)
      ·refine TL.gFf rfl rfl rfl (TL.gFf rfl rfl rfl (TL.gFf rfl rfl rfl (TL.gFf rfl rfl rfl (TL.gFf rfl rfl rfl (TL.gFf rfl rfl rfl (TL.opP rfl (op_pickF rfl rfl) (TL.nil (TQ.then (TC.condF rfl (TC.skip (TQ.block_normal (TQ.then (TC.region (TL.opP rfl (op_add rfl rfl rfl (by omega) (by omega)) (TL.mv rfl rfl (TL.nil ?_))))))))))))))))
       exact TQ.round (i + 1, nx, nl, se3, rs3) (⟨by omega, J, by rw [← hin, inner_no c4 (fun h => c5 (by have := h.1; omega))]⟩) (by show _ - (i + 1) < _ - i; omega) ⟨rfl, rfl, rfl, rfl, rfl, rfl, rfl, rfl, rfl, trivial⟩ (fun _ h => h.tail)
    ·refine TC.exit (TQ.then_exit (TQ.loop_exit (TQ.block_hit ?_)))
     exact TQ.join (nx, nl, se3, fd, fv, rs3) (⟨J, by rw [← hin, List.drop_of_length_le (by rw [List.length_map]; omega)]; rfl, by rw [← hin, List.drop_of_length_le (by rw [List.length_map]; omega)]; rfl, I.fdo.mono J.sub⟩) ⟨rfl, rfl, rfl, rfl, rfl, rfl, trivial⟩ (fun _ h => h.drop3)
   ·rintro ⟨nx, nl, se', fd', fv', rs3⟩ ⟨J, h1, h2, hF⟩
    show TC _ _ _ _ [(0, ptrV pa), (1, tv), (2, .int .i64 ((p : Nat) : Int)), (7, ptrV g25), (11, fv'), (12, nl)] _ _ (thRow nl nx :: fz rs3 :: seRow v1 (se') :: F)
    refine TC.region (TL.mv rfl rfl (TL.as rfl rfl (TL.nil (TQ.block_normal (TQ.then (TC.region (TL.mv rfl rfl (TL.opP rfl (op_add (r := ((p + 1 : Nat) : Int)) rfl rfl (by omega) (by omega) (by omega)) (TL.as rfl rfl (TL.nil ?_))))))))))
    exact TQ.round (p + 1, nx, nl, se', fd', fv', rs3) (I.next hts J h1 h2 hF) (by show _ - (p + 1) < _ - p; omega) ⟨rfl, rfl, rfl, rfl, rfl, rfl, trivial⟩ (fun _ h => h.pick2.pick2)
  ·refine TC.exit (TQ.then_exit (TQ.loop_exit (TQ.block_hit (TQ.then (TC.seq (TC.region (TL.mv rfl rfl (TL.as rfl rfl (TL.nil (TQ.then (TC.ret ?_)))))))))))
   refine ret1 rfl rfl (fun w' hp => ?_)
   exact ⟨_, _, rfl, ⟨rs1, fv, rfl, I.sub, I.end_ (List.length_eq_zero_iff.1 (by omega)), rfl⟩, (hp.drop2.drop1)⟩

end Go.SK
