/- Layer 12: the document's program: rows with | between, counted parts. -/
import Derived.Test.YtpomdenbgdgbhaaDoorE85
set_option linter.unusedVariables false
set_option linter.unusedSimpArgs false
set_option maxRecDepth 100000
namespace Go.SK
open Go Go.RowKit Go.Proofs
variable {S : Nat → Prop} {w0 : World} {F L : List Res}
/-! ### Steps that are put right in the end -/
def PatA (e base : Nat) (want : List StP) : List Nat → List StP → Prop
  | [], xs => xs = want
  | p :: r, xs => ∃ A B, xs = A ++ stB 0 0 :: B ∧ base + A.length = p ∧ PatA e base want r (A ++ stB e e :: B)
def PatL (e : Nat) (lz : Bool) (base : Nat) (want : List StP) : List Nat → List StP → Prop
  | [], xs => xs = want
  | p :: r, xs => ∃ A B, xs = A ++ stB (p + 1) 0 :: B ∧ base + A.length = p ∧ PatL e lz base want r (A ++ fork (p + 1) e lz :: B)
def altU : List Nd → Nat → List StP
  | [], _ => []
  | t :: r, b => stB (b + 1) (b + clen t + 2) :: (pcN t (b + 1) ++ stB 0 0 :: altU r (b + clen t + 2))
def altE (e : Nat) : List Nd → Nat → List StP
  | [], _ => []
  | t :: r, b => stB (b + 1) (b + clen t + 2) :: (pcN t (b + 1) ++ stB e e :: altE e r (b + clen t + 2))
def posA : List Nd → Nat → List Nat
  | [], _ => []
  | t :: r, b => (b + 1 + clen t) :: posA r (b + clen t + 2)
theorem altU_len : ∀ (k : List Nd) (b : Nat), (altU k b).length = clens k + 2 * k.length
  | [], b => rfl
  | t :: r, b => by rw [altU, List.length_cons, List.length_append, List.length_cons, pcN_len, altU_len r, clens, List.length_cons]; omega
theorem altU_snoc (t : Nd) : ∀ (k : List Nd) (b : Nat), altU (k ++ [t]) b = altU k b ++ (stB (b + clens k + 2 * k.length + 1) (b + clens k + 2 * k.length + clen t + 2) :: (pcN t (b + clens k + 2 * k.length + 1) ++ [stB 0 0]))
  | [], b => by simp [altU, clens]
  | a :: r, b => by
    rw [List.cons_append, altU, altU, altU_snoc t r, clens, List.length_cons, show b + clen a + 2 + clens r + 2 * r.length = b + (clen a + clens r) + 2 * (r.length + 1) by omega]
    simp
theorem posA_snoc (t : Nd) : ∀ (k : List Nd) (b : Nat), posA (k ++ [t]) b = posA k b ++ [b + clens k + 2 * k.length + 1 + clen t]
  | [], b => by simp [posA, clens]
  | a :: r, b => by
    rw [List.cons_append, posA, posA, posA_snoc t r, clens, List.length_cons, show b + clen a + 2 + clens r + 2 * r.length = b + (clen a + clens r) + 2 * (r.length + 1) by omega]
    rfl
theorem patA_alt {e base : Nat} : ∀ (k : List Nd) (b : Nat) (P0 T : List StP), base + P0.length = b → PatA e base (P0 ++ (altE e k b ++ T)) (posA k b) (P0 ++ (altU k b ++ T))
  | [], b, P0, T, h => rfl
  | t :: r, b, P0, T, h => by
    have ih := patA_alt (e := e) (base := base) r (b + clen t + 2) (P0 ++ stB (b + 1) (b + clen t + 2) :: (pcN t (b + 1) ++ [stB e e])) T (by simp only [List.length_append, List.length_cons, List.length_nil, pcN_len]; omega)
    refine ⟨P0 ++ stB (b + 1) (b + clen t + 2) :: pcN t (b + 1), altU r (b + clen t + 2) ++ T, by rw [altU]; simp, by simp only [List.length_append, List.length_cons, pcN_len]; omega, ?_⟩
    have e1 : P0 ++ (altE e (t :: r) b ++ T) = (P0 ++ stB (b + 1) (b + clen t + 2) :: (pcN t (b + 1) ++ [stB e e])) ++ (altE e r (b + clen t + 2) ++ T) := by rw [altE]; simp
    have e2 : (P0 ++ stB (b + 1) (b + clen t + 2) :: pcN t (b + 1)) ++ stB e e :: (altU r (b + clen t + 2) ++ T) = (P0 ++ stB (b + 1) (b + clen t + 2) :: (pcN t (b + 1) ++ [stB e e])) ++ (altU r (b + clen t + 2) ++ T) := by simp
    rw [e1, e2]; exact ih
theorem altE_fin (t : Nd) : ∀ (k : List Nd) (b e : Nat), e = b + clens k + 2 * k.length + clen t → altE e k b ++ pcN t (b + clens k + 2 * k.length) = pcA (k ++ [t]) b
  | [], b, e, h => by rw [List.nil_append, pcA_one]; rfl
  | a :: r, b, e, h => by
    have h1 : (r ++ [t]) ≠ [] := by simp
    have h2 := altE_fin t r (b + clen a + 2) e (by rw [h, clens, List.length_cons]; omega)
    rw [List.cons_append, pcA_more a h1, altE, List.cons_append, List.append_assoc, List.cons_append, ← h2]
    have e1 : b + clen a + 2 + (clens (r ++ [t]) + 2 * ((r ++ [t]).length - 1)) = e := by
      rw [h, clens_append, clens, clens, clens, List.length_append, List.length_singleton, List.length_cons]; omega
    rw [e1, clens, List.length_cons, show b + clen a + 2 + clens r + 2 * r.length = b + (clen a + clens r) + 2 * (r.length + 1) by omega]
def mayU (f : Nat → List StP) (c : Nat) : Nat → Nat → List StP
  | 0, _ => []
  | n + 1, b => stB (b + 1) 0 :: (f (b + 1) ++ mayU f c n (b + 1 + c))
def posN (c : Nat) : Nat → Nat → List Nat
  | 0, _ => []
  | n + 1, b => b :: posN c n (b + 1 + c)
theorem posN_len (c : Nat) : ∀ n b, (posN c n b).length = n
  | 0, b => rfl
  | n + 1, b => by rw [posN, List.length_cons, posN_len c n]
theorem posN_snoc (c : Nat) : ∀ n b, posN c (n + 1) b = posN c n b ++ [b + n * (c + 1)]
  | 0, b => by simp [posN]
  | n + 1, b => by rw [posN, posN_snoc c n, posN, Nat.succ_mul, show b + 1 + c + n * (c + 1) = b + (n * (c + 1) + (c + 1)) by omega]; rfl
section
variable {f : Nat → List StP} {c : Nat}
theorem mayU_len (hf : ∀ b, (f b).length = c) : ∀ n b, (mayU f c n b).length = n * (c + 1)
  | 0, b => by simp [mayU]
  | n + 1, b => by rw [mayU, List.length_cons, List.length_append, hf, mayU_len hf n, Nat.succ_mul]; omega
theorem mayU_snoc : ∀ n b, mayU f c (n + 1) b = mayU f c n b ++ stB (b + n * (c + 1) + 1) 0 :: f (b + n * (c + 1) + 1)
  | 0, b => by simp [mayU]
  | n + 1, b => by rw [mayU, mayU_snoc n, mayU, Nat.succ_mul, show b + 1 + c + n * (c + 1) = b + (n * (c + 1) + (c + 1)) by omega]; simp
theorem patL_may {e base : Nat} {lz : Bool} (hf : ∀ b, (f b).length = c) : ∀ (n b : Nat) (P0 : List StP), base + P0.length = b → PatL e lz base (P0 ++ mayC f c e lz n b) (posN c n b) (P0 ++ mayU f c n b)
  | 0, b, P0, h => by simp [PatL, posN, mayC, mayU]
  | n + 1, b, P0, h => by
    have ih := patL_may (e := e) (base := base) (lz := lz) hf n (b + 1 + c) (P0 ++ fork (b + 1) e lz :: f (b + 1)) (by simp only [List.length_append, List.length_cons, hf]; omega)
    refine ⟨P0, f (b + 1) ++ mayU f c n (b + 1 + c), by rw [mayU], h, ?_⟩
    have e1 : P0 ++ mayC f c e lz (n + 1) b = (P0 ++ fork (b + 1) e lz :: f (b + 1)) ++ mayC f c e lz n (b + 1 + c) := by rw [mayC]; simp
    have e2 : P0 ++ fork (b + 1) e lz :: (f (b + 1) ++ mayU f c n (b + 1 + c)) = (P0 ++ fork (b + 1) e lz :: f (b + 1)) ++ mayU f c n (b + 1 + c) := by simp
    rw [e1, e2]; exact ih
end
section
variable {rs : List Res} {ms ks kP : List RM} {v v' : Value} {x : Nd} {b pp : Nat}
theorem rmok_fork {rs : List Res} {s : StP} {d : Pc} (h : s.k ≠ 0) : RmOk rs (s, d) := fun h0 => absurd h0 h
theorem stB_k (x y : Nat) : (stB x y).k ≠ 0 := show (1 : Int) ≠ 0 by decide
theorem fork_k (x y : Nat) (lz : Bool) : (fork x y lz).k ≠ 0 := by unfold fork; split <;> exact stB_k _ _
theorem PGR.st {x y : Nat} {d : Pc} (hv : v.oneCell' = true) : PGR rs [stB x y] [(stB x y, d)] v := ⟨hv, rfl, fun m hm => by rw [List.mem_singleton.1 hm]; exact rmok_fork (stB_k _ _)⟩
theorem alt_on {kd : List Nd} {j : Nat} {d1 d2 : Pc} (hj : j < kd.length) (I : PGR rs (altU (kd.take j) b) ks v) (hx : kd.getD j .bol = x) (hp : pp = b + clens (kd.take j) + 2 * j) (h : PGR rs (pcN x (pp + 1)) kP v') {w : Value} (hw : w.oneCell' = true) :
    PGR rs (altU (kd.take (j + 1)) b) (ks ++ (stB (pp + 1) (pp + clen x + 2), d1) :: (kP ++ [(stB 0 0, d2)])) w := by
  have ht : (kd.take j).length = j := by rw [List.length_take]; omega
  rw [take_nd hj, hx, altU_snoc, ht, ← hp]
  exact I.app ((PGR.st (d := d1) hw).app (h.app (PGR.st (d := d2) hw)))
theorem alt_last {kd : List Nd} {j : Nat} (hj : j + 1 = kd.length) (I : PGR rs (altU (kd.take j) b) ks v) (hx : kd.getD j .bol = x) (hp : pp = b + clens (kd.take j) + 2 * j) (h : PGR rs (pcN x pp) kP v') :
    PGR rs (altU (kd.take j) b ++ pcN x pp) (ks ++ kP) v' ∧ PatA (pp + clen x) b (pcA kd b) (posA (kd.take j) b) (altU (kd.take j) b ++ pcN x pp) := by
  have ht : (kd.take j).length = j := by rw [List.length_take]; omega
  refine ⟨I.app h, ?_⟩
  have h1 := patA_alt (e := pp + clen x) (base := b) (kd.take j) b [] (pcN x pp) rfl
  have h2 := altE_fin x (kd.take j) b (pp + clen x) (by rw [ht, hp])
  rw [ht, ← hp] at h2
  have h3 : kd = kd.take j ++ [x] := by rw [← hx, ← take_nd (by omega), List.take_of_length_le (by omega)]
  rw [← h3] at h2
  rw [← h2]; exact h1
end
theorem ok_patch {rs : List Res} {KA KB : List RM} {s s' : StP} {q : Pc} (h : ∀ m ∈ KA ++ (s, q) :: KB, RmOk rs m) (hs : s'.k ≠ 0) : ∀ m ∈ KA ++ (s', q) :: KB, RmOk rs m := fun m hm => by
  rcases List.mem_append.1 hm with hm | hm
  · exact h m (List.mem_append_left _ hm)
  · rcases List.mem_cons.1 hm with rfl | hm
    · exact rmok_fork hs
    · exact h m (List.mem_append_right _ (.tail _ hm))
theorem posA_bd : ∀ (k : List Nd) (b : Nat), (posA k b).length = k.length
  | [], b => rfl
  | t :: r, b => by rw [posA, List.length_cons, posA_bd r, List.length_cons]
set_option maxHeartbeats 1000000
theorem xproga_x (rs : List Res) (p : Pc) (lv : Value) (ms : List RM) (kd : List Nd) (ps : List Pc) (hk : p.k = 5) (hne : kd ≠ []) (hz : fz rs ∈ F) (hkv : Rdb F p.kv 8 ps.length (encs ps)) (hpl : kd.length = ps.length) (hpl2 : ps.length ≤ 5000) (hlv : lv.oneCell' = true) (hb : ms.length + (clens kd + 2 * (kd.length - 1)) ≤ 5000) (ih : ∀ j, j < ps.length → HProg rs (kd.getD j .bol) (ps.getD j default)) :
    CallX Tryd.prog 87 [lv, Pc.val p] S w0 (stRow lv (ms) :: F) (fun u L' => ∃ v' ks, u = v' ∧ PGR rs (pcA kd ms.length) ks v' ∧ L' = stRow v' (ms ++ ks) :: F) := by
 intro w hp
 have hk0 := List.length_pos_iff.2 hne
 refine calls_start Tryd.func87 rfl rfl rfl (hp) ?_
 refine TC.seq (TC.region ?_)
 refine TL.opX rfl (OpX.box (cs := (Pc.cs p)) rfl rfl) ?_; rintro _ _ ⟨g3, rfl, rfl⟩
 refine TL.as rfl rfl (TL.nil (TQ.then (TC.seq (TC.seq (TC.region (TL.opP rfl (op_field fld_sealskinref12_Part_Kind rfl) (TL.opV rfl (op_load ts_int rfl m0 rfl) (TL.nil (TQ.then (TC.block (TC.seq (TC.seq (TC.region (TL.opP rfl (op_eql rfl rfl) (TL.as rfl rfl (TL.nil (TQ.then ?_)))))))))))))))))
 refine TC.sp rfl (fun c1 => ?_) (fun c1 => ?_)
 ·omega
 ·refine TC.seq (TC.region (TL.opP rfl (op_eql rfl rfl) (TL.as rfl rfl (TL.nil (TQ.then ?_)))))
  refine TC.sp rfl (fun c2 => ?_) (fun c2 => ?_)
  ·omega
  ·refine TC.region (TL.opP rfl (op_eql rfl rfl) (TL.as rfl rfl (TL.nil (TQ.then ?_))))
   refine TC.sp rfl (fun c3 => ?_) (fun c3 => ?_)
   ·omega
   ·refine TC.seq (TC.region (TL.opP rfl (op_eql rfl rfl) (TL.as rfl rfl (TL.nil (TQ.then ?_)))))
    refine TC.sp rfl (fun c4 => ?_) (fun c4 => ?_)
    ·omega
    ·refine TC.seq (TC.region (TL.opP rfl (op_eql rfl rfl) (TL.as rfl rfl (TL.nil (TQ.then ?_)))))
     refine TC.sp rfl (fun c5 => ?_) (fun c5 => ?_)
     ·refine TC.seq (TC.region (TL.as rfl rfl (TL.hp (fun _ h => new_nil 3 1 h) (TL.nil (TQ.then (TC.seq (TC.seq (TC.region (TL.opP rfl (op_field fld_sealskinref12_Part_Kids rfl) (TL.opV rfl (op_load ts_sl_sealskinref12_Part rfl m1 rfl) (TL.opV rfl (op_lenV rfl un_sl_sealskinref12_Part rfl hkv.cons.cons.cons) (TL.mv rfl rfl (TL.nil (TQ.then (TC.block ?_)))))))))))))))
      refine TC.loop (ι := Nat × Value × List RM × List Nat × Value × List StP) (fun (j, v, ks, pos, fv, xs) => [(0, v), (3, .pointer (some ⟨g3, 0, none⟩)), (7, fv), (50, p.kv), (51, .int .i64 (ps.length : Int)), (52, .int .i64 (j : Int))]) (fun (j, v, ks, pos, fv, xs) => stRow v (ms ++ ks) :: .row fv 3 1 (pos).length ((pos).map nv) :: .blk g3 (.cells (Pc.cs p).toArray 130 (0, 0)) :: F) (fun (j, v, ks, pos, fv, xs) => j ≤ ps.length ∧ fv.oneCell' = true ∧ pos.length ≤ 5000 ∧ PGR rs xs ks v ∧ ((j < ps.length ∧ xs = altU (kd.take j) ms.length ∧ pos = posA (kd.take j) ms.length) ∨ (j = ps.length ∧ ∃ e, PatA e ms.length (pcA kd ms.length) pos xs ∧ (ms ++ ks).length = e ∧ e ≤ 5000))) (fun (j, v, ks, pos, fv, xs) => ps.length - j) ((0, lv, [], [], nilS, [])) (⟨Nat.zero_le _, rfl, Nat.zero_le _, .nil hlv, .inl ⟨by omega, rfl, rfl⟩⟩) ⟨rfl, rfl, rfl, rfl, rfl, rfl, trivial⟩ (fun _ h => by dsimp only; rw [List.append_nil]; exact h.pick1.pick1.pick2) ?_
      rintro ⟨j, v, ks, pos, fv, xs⟩ ⟨hj, hfv, hpos, I, hxs⟩
      show TC _ _ _ _ [(0, v), (3, .pointer (some ⟨g3, 0, none⟩)), (7, fv), (50, p.kv), (51, .int .i64 (ps.length : Int)), (52, .int .i64 (j : Int))] _ _ (stRow v (ms ++ ks) :: .row fv 3 1 (pos).length ((pos).map nv) :: .blk g3 (.cells (Pc.cs p).toArray 130 (0, 0)) :: F)
      refine TC.seq (TC.region (TL.opP rfl (op_lss rfl rfl) (TL.nil (TQ.then (TC.seq ?_)))))
      refine TC.sp rfl (fun c6 => ?_) (fun c6 => ?_)
      ·have hkl : j < ps.length := by omega
       obtain ⟨rfl, rfl⟩ : xs = altU (kd.take j) ms.length ∧ pos = posA (kd.take j) ms.length := by
          rcases hxs with ⟨_, h⟩ | ⟨h, _⟩
          · exact h
          · omega
       obtain ⟨q, hpk⟩ : ∃ q, ps.getD j default = q := ⟨_, rfl⟩
       obtain ⟨x, hx⟩ : ∃ x, kd.getD j .bol = x := ⟨_, rfl⟩
       have hih := ih j hkl
       rw [hpk, hx] at hih
       have hct := clens_take (k := kd) (j := j) (by omega)
       rw [hx] at hct
       have hIl := I.len
       rw [altU_len] at hIl
       have htl : (kd.take j).length = j := by rw [List.length_take]; omega
       obtain ⟨pp, hpp⟩ : ∃ pp, (ms ++ ks).length = pp := ⟨_, rfl⟩
       have hpe : pp = ms.length + clens (kd.take j) + 2 * j := by rw [← hpp, List.length_append, hIl, htl]; omega
       refine TC.skip (TQ.then (TC.seq (TC.block (TC.seq (TC.region (TL.mv rfl rfl (TL.opV rfl (op_index tsl_sealskinref12_Part rfl hkv.cons.cons.cons rfl (by omega) (by omega)) (TL.opV rfl (op_loadRS tst_sealskinref12_Part rfl hkv.cons.cons.cons (cs := Pc.cs q) rfl (lkS hkl hpk) (by decide)) ?_))))))))
       refine TL.opX rfl (OpX.alloc tz_sealskinref12_Part rfl) ?_; rintro _ _ ⟨g9, rfl, rfl⟩
       refine TL.opP rfl (op_assign rfl) ?_
       refine TL.opX0 (OpX.storeS tst_sealskinref12_Part rfl rfl rfl rfl rfl (nc_one (Pc.hs _) (Pc.hk _))) ?_; rintro _ _ rfl
       refine TL.nil (TQ.then (TC.seq (TC.region (TL.mv rfl rfl (TL.opV rfl (op_lenV rfl un_sl_sealskinref12_Step rfl rw1) ?_)))))
       rw [hpp]
       refine TL.as rfl rfl (TL.nil (TQ.then (TC.seq (TC.seq (TC.region (TL.mv rfl rfl (TL.opP rfl (op_field fld_sealskinref12_Part_Kids rfl) (TL.opV rfl (op_load ts_sl_sealskinref12_Part rfl m3 rfl) (TL.opV rfl (op_lenV rfl un_sl_sealskinref12_Part rfl hkv.cons.cons.cons.cons) (TL.opP rfl (op_sub (r := (ps.length : Int) - 1) rfl rfl rfl (by omega) (by omega)) (TL.opP rfl (op_lss rfl rfl) (TL.nil (TQ.then ?_)))))))))))))
       refine TC.sp rfl (fun c7 => ?_) (fun c7 => ?_)
       ·have hpl3 : (ms ++ ks ++ [((stB (pp + 1) 0, default) : RM)]).length = pp + 1 := by rw [List.length_append, hpp]; rfl
        refine TC.region (TL.mv rfl rfl (TL.mv rfl rfl (TL.opP rfl (op_add (r := ((pp + 1 : Nat) : Int)) rfl rfl (by omega) (by omega) (by omega)) (TL.opP rfl (op_build (ps := #[(0, _), (2, _)]) rfl (bl_sealskinref12_Step_02 _ _)) ?_))))
        refine TL.opX rfl (OpX.buildSlice (ps := #[(0, _)]) rfl (bs_sealskinref12_Step_1 ((stB (pp + 1) 0, default) : RM) _ (by kernel_rfl))) ?_; rintro _ _ ⟨g69, rfl, rfl⟩
        refine TL.hp (fun _ h => blk_row (k := 12) (m := 1) h rfl (by decide)) (TL.hp (fun _ h => h.pick2) ?_)
        refine TL.opX rfl (OpX.append (bytes := 128) tsl_sealskinref12_Step (by decide) (by decide) rfl rw1 (encs_one _) (by omega) (zs := encs (ms ++ ks ++ [((stB (pp + 1) 0, default) : RM)])) (encs_append _ _).symm) ?_; rintro v1 _ rfl
        refine TL.know (fun _ h => row1 h) (fun o1 => (TL.hp (fun _ h => row_len12 h) (TL.as rfl rfl (TL.nil (TQ.then (TC.seq (TC.region (TL.mv rfl rfl (TL.opV rfl (op_loadS tst_sealskinref12_Part rfl m2 rfl) ?_)))))))))
        refine TL.opX rfl (OpX.callX en_87 rfl (hih _ _ _ _ (ms ++ ks ++ [((stB (pp + 1) 0, default) : RM)]) (.tail _ (.tail _ (.tail _ (.tail _ hz)))) (by assumption) (by rw [hpl3]; omega))) ?_; rintro vP2 _ ⟨_, kP2, rfl, hP2, rfl⟩
        refine TL.opP rfl (op_assign rfl) ?_
        have hkl2 := hP2.len
        rw [pcN_len] at hkl2
        have hP2 := hP2
        rw [hpl3] at hP2
        refine TL.nil (TQ.then (TC.seq (TC.region (TL.mv rfl rfl (TL.opP rfl (op_field fld_sealskinref12_Part_Kids rfl) (TL.opV rfl (op_load ts_sl_sealskinref12_Part rfl m4 rfl) (TL.opV rfl (op_lenV rfl un_sl_sealskinref12_Part rfl hkv.cons.cons.cons.cons.cons) (TL.opP rfl (op_sub (r := (ps.length : Int) - 1) rfl rfl rfl (by omega) (by omega)) (TL.opP rfl (op_lss rfl rfl) (TL.nil (TQ.then ?_)))))))))))
        refine TC.sp rfl (fun c8 => ?_) (fun c8 => ?_)
        ·have hL1 : (ms ++ ks ++ [((stB (pp + 1) 0, default) : RM)] ++ kP2).length = pp + 1 + clen x := by rw [List.length_append, hpl3, hkl2]
         have hL2 : (ms ++ ks ++ [((stB (pp + 1) 0, default) : RM)] ++ kP2 ++ [((stB 0 0, default) : RM)]).length = pp + clen x + 2 := by rw [List.length_append, hL1, List.length_singleton]; omega
         refine TC.seq (TC.region (TL.mv rfl rfl (TL.mv rfl rfl (TL.opV rfl (op_lenV rfl un_sl_sealskinref12_Step rfl rw0) ?_))))
         rw [hL1]
         refine TL.opX rfl (OpX.buildSlice (ps := #[(0, _)]) rfl (bs_int_1 _)) ?_; rintro _ _ ⟨g83, rfl, rfl⟩
         refine TL.hp (fun _ h => blk_row (k := 1) (m := 1) h rfl (by decide)) (TL.hp (fun _ h => h.pick4) ?_)
         refine TL.opX rfl (OpX.append (bytes := 8) tsl_int (by decide) (by decide) rfl rw1 (ints_one1 _) (by omega) (zs := (posA (kd.take j) ms.length ++ [pp + 1 + clen x]).map nv) (by rw [List.map_append]; rfl)) ?_; rintro v3 _ rfl
         refine TL.know (fun _ h => row1 h) (fun o3 => (TL.hp (fun _ h => row_lenM h) (TL.as rfl rfl (TL.nil (TQ.then (TC.seq (TC.region (TL.mv rfl rfl (TL.opP rfl (op_build (ps := #[(0, _)]) rfl (bl_sealskinref12_Step_0 _)) ?_)))))))))
         refine TL.opX rfl (OpX.buildSlice (ps := #[(0, _)]) rfl (bs_sealskinref12_Step_1 ((stB 0 0, default) : RM) _ (by kernel_rfl))) ?_; rintro _ _ ⟨g87, rfl, rfl⟩
         refine TL.hp (fun _ h => blk_row (k := 12) (m := 1) h rfl (by decide)) (TL.hp (fun _ h => h.pick3) ?_)
         refine TL.opX rfl (OpX.append (bytes := 128) tsl_sealskinref12_Step (by decide) (by decide) rfl rw1 (encs_one _) (by omega) (zs := encs (ms ++ ks ++ [((stB (pp + 1) 0, default) : RM)] ++ kP2 ++ [((stB 0 0, default) : RM)])) (encs_append _ _).symm) ?_; rintro v4 _ rfl
         refine TL.know (fun _ h => row1 h) (fun o4 => (TL.hp (fun _ h => row_len12 h) (TL.as rfl rfl (TL.nil (TQ.then (TC.region (TL.mv rfl rfl (TL.mv rfl rfl (TL.mv rfl rfl (TL.opV rfl (op_lenV rfl un_sl_sealskinref12_Step rfl rw0) ?_))))))))))
         rw [hL2]
         refine TL.opV rfl (op_index tsl_sealskinref12_Step rfl rw0 rfl (by omega) (by omega)) (TL.opP rfl (op_fieldA fld_sealskinref12_Step_Y rfl) ?_)
         refine TL.opX0 (OpX.storeRow (k := 1) (fun w => by kernel_rfl) rfl rfl rfl (ys := [.int .i64 ((pp + clen x + 2 : Nat) : Int)]) rfl (by decide) (List.all_eq_true.1 rfl) (by first | omega | (simp only [List.length_append, List.length_cons, List.length_nil]; omega)) (st_rm (A := ms ++ ks) (B := kP2 ++ [((stB 0 0, default) : RM)]) (m := ((stB (pp + 1) 0, default) : RM)) (m' := ((stB (pp + 1) (pp + clen x + 2), default) : RM)) (j := 10) (by simp) (by decide) (by first | omega | (simp only [List.length_append, List.length_cons, List.length_nil]; omega)) rfl)) ?_; rintro _ _ rfl
         refine TL.hp (fun _ h => row_len12 h) (TL.nil (TQ.block_normal (TQ.then (TC.region (TL.opP rfl (op_add rfl rfl rfl (by omega) (by omega)) (TL.mv rfl rfl (TL.nil ?_)))))))
         exact TQ.round (j + 1, v4, ks ++ ((stB (pp + 1) (pp + clen x + 2), default) : RM) :: (kP2 ++ [((stB 0 0, default) : RM)]), posA (kd.take j) ms.length ++ [pp + 1 + clen x], v3, altU (kd.take (j + 1)) ms.length) (by (try dsimp only); exact ⟨by omega, by assumption, by rw [List.length_append, posA_bd, htl, List.length_singleton]; omega, alt_on (by omega) I hx hpe hP2 (by assumption), .inl ⟨by omega, rfl, by rw [take_nd (by omega), hx, posA_snoc, htl, hpe]⟩⟩) (by show ps.length - (j + 1) < ps.length - j; omega) ⟨rfl, rfl, rfl, rfl, rfl, rfl, trivial⟩ (fun _ h => by dsimp only; have h := h.drop5.drop4.drop3.drop1; simpa only [List.append_assoc, List.cons_append, List.nil_append] using h)
        ·omega
       ·refine TC.skip (TQ.then (TC.seq (TC.region (TL.mv rfl rfl (TL.opV rfl (op_loadS tst_sealskinref12_Part rfl m0 rfl) (TL.hp (fun _ h => h.pick1) ?_))))))
        refine TL.opX rfl (OpX.callX en_87 rfl (hih _ _ _ _ (ms ++ ks) (.tail _ (.tail _ (.tail _ hz))) I.one (by rw [hpp]; omega))) ?_; rintro vP5 _ ⟨_, kP5, rfl, hP5, rfl⟩
        refine TL.opP rfl (op_assign rfl) ?_
        have hkl2 := hP5.len
        rw [pcN_len] at hkl2
        have hP2 := hP5
        rw [hpp] at hP2
        refine TL.nil (TQ.then (TC.seq (TC.region (TL.mv rfl rfl (TL.opP rfl (op_field fld_sealskinref12_Part_Kids rfl) (TL.opV rfl (op_load ts_sl_sealskinref12_Part rfl m3 rfl) (TL.opV rfl (op_lenV rfl un_sl_sealskinref12_Part rfl hkv.cons.cons.cons.cons) (TL.opP rfl (op_sub (r := (ps.length : Int) - 1) rfl rfl rfl (by omega) (by omega)) (TL.opP rfl (op_lss rfl rfl) (TL.nil (TQ.then ?_)))))))))))
        refine TC.sp rfl (fun c9 => ?_) (fun c9 => ?_)
        ·omega
        ·have hla := alt_last (by omega) I hx hpe hP2
         refine TC.skip (TQ.block_normal (TQ.then (TC.region (TL.opP rfl (op_add rfl rfl rfl (by omega) (by omega)) (TL.mv rfl rfl (TL.nil ?_))))))
         exact TQ.round (j + 1, vP5, ks ++ kP5, posA (kd.take j) ms.length, fv, _) (by (try dsimp only); exact ⟨by omega, hfv, by rw [posA_bd, htl]; omega, hla.1, .inr ⟨by omega, _, hla.2, by rw [← List.append_assoc, List.length_append, hpp, hkl2], by omega⟩⟩) (by show ps.length - (j + 1) < ps.length - j; omega) ⟨rfl, rfl, rfl, rfl, rfl, rfl, trivial⟩ (fun _ h => by dsimp only; have h := h.drop1; simpa only [List.append_assoc, List.cons_append, List.nil_append] using h)
      ·obtain ⟨e, hpat, hle, he5⟩ : ∃ e, PatA e ms.length (pcA kd ms.length) pos xs ∧ (ms ++ ks).length = e ∧ e ≤ 5000 := by
          rcases hxs with ⟨h, _⟩ | ⟨_, h⟩
          · omega
          · exact h
       refine TC.exit (TQ.then_exit (TQ.loop_exit (TQ.block_hit (TQ.then (TC.seq (TC.region (TL.mv rfl rfl (TL.opV rfl (op_lenV rfl un_sl_int rfl rw1) (TL.mv rfl rfl (TL.nil (TQ.then (TC.block ?_))))))))))))
       refine TC.loop (ι := Nat × List RM) (fun (i, k2) => [(0, v), (3, .pointer (some ⟨g3, 0, none⟩)), (96, fv), (97, .int .i64 (pos.length : Int)), (98, .int .i64 (i : Int))]) (fun (i, k2) => stRow v (ms ++ k2) :: .row fv 3 1 (pos).length ((pos).map nv) :: .blk g3 (.cells (Pc.cs p).toArray 130 (0, 0)) :: F) (fun (i, k2) => i ≤ pos.length ∧ (∀ m ∈ k2, RmOk rs m) ∧ (ms ++ k2).length = e ∧ PatA e ms.length (pcA kd ms.length) (pos.drop i) (k2.map Prod.fst)) (fun (i, k2) => pos.length - i) ((0, ks)) (⟨Nat.zero_le _, I.ok, hle, by rw [I.eq]; exact hpat⟩) ⟨rfl, rfl, rfl, rfl, rfl, trivial⟩ (fun _ h => h) ?_
       rintro ⟨i, k2⟩ ⟨hi, hok, hle2, hJ⟩
       show TC _ _ _ _ [(0, v), (3, .pointer (some ⟨g3, 0, none⟩)), (96, fv), (97, .int .i64 (pos.length : Int)), (98, .int .i64 (i : Int))] _ _ (stRow v (ms ++ k2) :: .row fv 3 1 (pos).length ((pos).map nv) :: .blk g3 (.cells (Pc.cs p).toArray 130 (0, 0)) :: F)
       refine TC.seq (TC.region (TL.opP rfl (op_lss rfl rfl) (TL.nil (TQ.then (TC.seq ?_)))))
       refine TC.sp rfl (fun c10 => ?_) (fun c10 => ?_)
       ·have hil : i < pos.length := by omega
        obtain ⟨pa, hpa⟩ : ∃ pa, pos.getD i default = pa := ⟨_, rfl⟩
        have hdr : pos.drop i = pa :: pos.drop (i + 1) := drop_getD hil hpa
        rw [hdr] at hJ
        obtain ⟨A, B, hA1, hA2, hA3⟩ := hJ
        obtain ⟨KA, q2, KB, rfl, hK1, hK2⟩ := map_split hA1
        have hKl : ms.length + KA.length = pa := by rw [← hA2, ← hK1, List.length_map]
        have hpe2 : pa < e := by rw [← hle2]; simp only [List.length_append, List.length_cons]; omega
        have hle3 : ∀ s : RM, (ms ++ KA ++ s :: KB).length = e := fun s => by rw [← hle2]; simp
        refine TC.skip (TQ.then (TC.seq (TC.block (TC.seq (TC.region (TL.opV rfl (op_index tsl_int rfl rw1 rfl (by omega) (by omega)) (TL.opV rfl (op_loadR ts_int rfl rw1 (lkM (f := nv) (i := i) (d := default) (by omega) hpa (by omega))) (TL.as rfl rfl (TL.nil (TQ.then (TC.seq (TC.region (TL.mv rfl rfl (TL.mv rfl rfl (TL.mv rfl rfl (TL.opV rfl (op_lenV rfl un_sl_sealskinref12_Step rfl rw0) ?_))))))))))))))))
        rw [hle2]
        refine TL.opV rfl (op_index tsl_sealskinref12_Step rfl rw0 rfl (by omega) (by omega)) (TL.opP rfl (op_fieldA fld_sealskinref12_Step_X rfl) ?_)
        refine TL.opX0 (OpX.storeRow (k := 1) (fun w => by kernel_rfl) rfl rfl rfl (ys := [.int .i64 ((e : Nat) : Int)]) rfl (by decide) (List.all_eq_true.1 rfl) (by first | omega | (simp only [List.length_append, List.length_cons, List.length_nil]; omega)) (st_rm (A := ms ++ KA) (B := KB) (m := (stB 0 0, q2)) (m' := (stB e 0, q2)) (j := 9) (by simp) (by decide) (by first | omega | (simp only [List.length_append, List.length_cons, List.length_nil]; omega)) rfl)) ?_; rintro _ _ rfl
        refine TL.hp (fun _ h => row_len12 h) (TL.nil (TQ.then (TC.region (TL.mv rfl rfl (TL.mv rfl rfl (TL.mv rfl rfl (TL.opV rfl (op_lenV rfl un_sl_sealskinref12_Step rfl rw0) ?_)))))))
        rw [hle3]
        refine TL.opV rfl (op_index tsl_sealskinref12_Step rfl rw0 rfl (by omega) (by omega)) (TL.opP rfl (op_fieldA fld_sealskinref12_Step_Y rfl) ?_)
        refine TL.opX0 (OpX.storeRow (k := 1) (fun w => by kernel_rfl) rfl rfl rfl (ys := [.int .i64 ((e : Nat) : Int)]) rfl (by decide) (List.all_eq_true.1 rfl) (by first | omega | (simp only [List.length_append, List.length_cons, List.length_nil]; omega)) (st_rm (A := ms ++ KA) (B := KB) (m := (stB e 0, q2)) (m' := (stB e e, q2)) (j := 10) rfl (by decide) (by first | omega | (simp only [List.length_append, List.length_cons, List.length_nil]; omega)) rfl)) ?_; rintro _ _ rfl
        refine TL.hp (fun _ h => row_len12 h) (TL.nil (TQ.block_normal (TQ.then (TC.region (TL.opP rfl (op_add rfl rfl rfl (by omega) (by omega)) (TL.mv rfl rfl (TL.nil ?_)))))))
        exact TQ.round (i + 1, KA ++ (stB e e, q2) :: KB) (by (try dsimp only); exact ⟨by omega, ok_patch hok (stB_k _ _), by rw [← List.append_assoc]; exact hle3 _, by rw [List.map_append, List.map_cons, hK1, hK2]; exact hA3⟩) (by show pos.length - (i + 1) < pos.length - i; omega) ⟨rfl, rfl, rfl, rfl, rfl, trivial⟩ (fun _ h => by dsimp only; rw [← List.append_assoc]; exact h)
       ·refine TC.exit (TQ.then_exit (TQ.loop_exit (TQ.block_hit (TQ.block_normal (TQ.then (TC.seq (TC.region (TL.mv rfl rfl (TL.as rfl rfl (TL.nil (TQ.then (TC.ret ?_))))))))))))
        refine ret1 rfl rfl (fun w' hp => ?_)
        exact ⟨_, _, rfl, ⟨_, k2, rfl, ⟨I.one, by rw [List.drop_of_length_le (by omega)] at hJ; exact hJ, hok⟩, rfl⟩, (hp.drop2.drop1)⟩
     ·omega

end Go.SK
