/- Walks: the document's own answer for layer 10: tables row by row. -/
import Derived.Test.YtnleenjmnndphaaDoorE32
import Derived.Test.YtnleenjmnndphaaDoorMB
set_option linter.unusedVariables false
set_option linter.unusedSimpArgs false
set_option maxRecDepth 100000
namespace Go.SK
open Go Go.RowKit Go.Proofs
variable {S : Nat → Prop} {w0 : World} {F L : List Res}
theorem rchars_x (s : ByteArray) (hs : s.size ≤ 4398046511104) :
    CallX Tryd.prog 61 [.string s] S w0 (L) (fun u L' => ∃ v', u = v' ∧ L' = .row v' 21 1 (dec s).length ((dec s).map (Value.int .i32)) :: L) := by
  intro w hp
  refine calls_start Tryd.func61 rfl rfl rfl (hp) ?_
  refine TC.seq ?_
  refine TC.region ?_   -- region 0 ref.go:39
  refine TL.opP rfl (op_assign rfl) ?_
  refine TL.nil ?_
  refine TQ.then ?_
  refine TC.seq ?_
  refine TC.region ?_   -- region 1 ref.go:40
  refine TL.opP rfl (op_assign rfl) ?_
  refine TL.nil ?_
  refine TQ.then ?_
  refine TC.seq ?_
  refine TC.seq ?_
  refine TC.region ?_   -- region 2 ref.go:41
  refine TL.opP rfl (op_move rfl) ?_
  refine TL.opX rfl (OpX.range un_string rfl) ?_; rintro _ _ ⟨g7, rfl, rfl⟩
  refine TL.nil ?_
  refine TQ.then ?_
  refine TC.block ?_
  refine TC.hp (fun _ h => new_nil 21 1 h) ?_
  refine TC.loop (ι := Nat × List Int × Value) (fun (pos, out, ov) => [(3, ov), (7, .pointer (some ⟨g7, 0, none⟩))]) (fun (pos, out, ov) => .blk g7 (.stringIter s pos) :: .row ov 21 1 (out).length ((out).map (Value.int .i32)) :: L) (fun (pos, out, ov) => out ++ decFrom s pos = dec s) (fun (pos, out, ov) => (decFrom s pos).length) ((0, [], .slice none 0 0)) ((by show [] ++ decFrom s 0 = dec s; rw [decFrom_zero]; rfl)) ⟨rfl, rfl, trivial⟩ (fun _ h => h.pick1) ?_
  rintro ⟨pos, out, ov⟩ (hI : out ++ decFrom s pos = dec s)
  have hol : out.length ≤ s.size := by have h1 := dec_len s; rw [← hI, List.length_append] at h1; omega
  show TC _ _ _ _ [(3, ov), (7, .pointer (some ⟨g7, 0, none⟩))] _ _ (.blk g7 (.stringIter s pos) :: .row ov 21 1 (out).length ((out).map (Value.int .i32)) :: L)
  refine TC.seq ?_
  refine TC.region ?_   -- region 3 ref.go:41
  refine TL.opX rfl (OpX.next rfl) ?_; rintro _ _ (⟨hn1, rfl, rfl⟩ | ⟨hn1, rfl, rfl⟩)
  · skip
    have hst := decFrom_step hn1
    have hc : (out ++ [((Utf8.decode s pos).1 : Int)]) ++ decFrom s (pos + (Utf8.decode s pos).2) = dec s := by rw [← hI, hst]; simp
    have hm : (decFrom s (pos + (Utf8.decode s pos).2)).length < (decFrom s pos).length := by rw [hst]; simp
    refine TL.opP rfl (op_extract rfl rfl) ?_
    refine TL.nil ?_
    refine TQ.then ?_
    refine TC.seq ?_
    refine TC.condT rfl ?_
    refine TC.skip ?_
    refine TQ.then ?_
    refine TC.block ?_
    refine TC.seq ?_
    refine TC.region ?_   -- region 4 ref.go:41
    refine TL.opP rfl (op_extract rfl rfl) ?_
    refine TL.opP rfl (op_assign rfl) ?_
    refine TL.nil ?_
    refine TQ.then ?_
    refine TC.region ?_   -- region 5 ref.go:42
    refine TL.opP rfl (op_move rfl) ?_
    refine TL.opP rfl (op_move rfl) ?_
    refine TL.opX rfl (OpX.buildSlice (ps := #[(0, _)]) rfl (bs_int32_1 _)) ?_; rintro _ _ ⟨g13, rfl, rfl⟩
    refine TL.hp (fun _ h => blk_row (k := 1) (m := 1) h rfl (by decide)) ?_
    refine TL.hp (fun _ h => h.pick2) ?_
    refine TL.opX rfl (OpX.append (bytes := 4) tsl_int32 (by decide) (by decide) rfl rw1 (one1 rfl) (by omega) (zs := (out ++ [((Utf8.decode s pos).1 : Int)]).map (Value.int .i32)) (by simp)) ?_; rintro v1 _ rfl
    refine TL.know (fun _ h => row1 h) (fun o1 => ?_)
    refine TL.hp (fun _ h => row_lenM h) ?_
    refine TL.opP rfl (op_assign rfl) ?_
    refine TL.nil ?_
    refine TQ.block_normal ?_
    exact TQ.round (_, _, v1) (hc) (hm) ⟨rfl, rfl, trivial⟩ (fun _ h => h.drop1.pick1)
  · skip
    have hz : out = dec s := by rw [← hI, decFrom_end hn1, List.append_nil]
    refine TL.opP rfl (op_extract rfl rfl) ?_
    refine TL.nil ?_
    refine TQ.then ?_
    refine TC.seq ?_
    refine TC.condF rfl ?_
    refine TC.exit ?_
    refine TQ.then_exit ?_
    refine TQ.loop_exit ?_
    refine TQ.block_hit ?_
    refine TQ.then ?_
    refine TC.seq ?_
    refine TC.region ?_   -- region 6 ref.go:44
    refine TL.opP rfl (op_move rfl) ?_
    refine TL.opP rfl (op_assign rfl) ?_
    refine TL.nil ?_
    refine TQ.then ?_
    refine TC.ret ?_
    refine ret1 rfl rfl (fun w' hp => ?_)
    exact ⟨_, _, rfl, ⟨_, rfl, by rw [hz]⟩, (hp.tail)⟩

def allT : List ByteArray → Int
  | [] => 0
  | s :: r => if ckT s ≠ 0 then ckT s else allT r
theorem allT2 (s t : ByteArray) : allT [s, t] = ck2 s t := by
  unfold ck2 allT allT allT
  by_cases h : ckT s = 0
  · rw [if_neg (by omega), if_pos h]; split <;> omega
  · rw [if_pos h, if_neg h]
theorem drop_getDs {ss : List ByteArray} {k : Nat} {x : ByteArray} (h : k < ss.length) (hx : ss.getD k ⟨#[]⟩ = x) : ss.drop k = x :: ss.drop (k + 1) := getD_drop h hx
theorem rall_x (ss : List ByteArray) (v : Value) (hs : ∀ s ∈ ss, s.size ≤ 70368744177664) (hr : Rdb L v 1 ss.length (ss.map Value.string)) :
    CallX Tryd.prog 60 [v] S w0 (L) (fun u L' => u = .int .i64 (allT ss) ∧ L' = L) := by
  intro w hp
  have hlen := hr.lenLe hp
  refine calls_start Tryd.func60 rfl rfl rfl (hp) ?_
  refine TC.seq ?_
  refine TC.region ?_   -- region 0 ref.go:29
  refine TL.opP rfl (op_assign rfl) ?_
  refine TL.nil ?_
  refine TQ.then ?_
  refine TC.seq ?_
  refine TC.seq ?_
  refine TC.region ?_   -- region 1 ref.go:30
  refine TL.opP rfl (op_move rfl) ?_
  refine TL.opV rfl (op_lenV rfl un_sl_string rfl hr) ?_
  refine TL.opP rfl (op_move rfl) ?_
  refine TL.nil ?_
  refine TQ.then ?_
  refine TC.block ?_
  refine TC.loop (ι := Nat) (fun k => [(6, v), (7, .int .i64 (ss.length : Int)), (8, .int .i64 (k : Int))]) (fun k => L) (fun k => k ≤ ss.length ∧ allT (ss.drop k) = allT ss) (fun k => ss.length - k) (0) (⟨Nat.zero_le _, rfl⟩) ⟨rfl, rfl, rfl, trivial⟩ (fun _ h => h) ?_
  rintro k hI
  have hk := hI.1
  refine TC.seq ?_
  refine TC.region ?_   -- region 2 ref.go:30
  refine TL.opP rfl (op_lss rfl rfl) ?_
  refine TL.nil ?_
  refine TQ.then ?_
  refine TC.seq ?_
  first | refine TC.condD rfl (fun c1 => ?_) (fun c1 => ?_) | refine TC.condB rfl (fun c1 => ?_) (fun c1 => ?_)
  · have hkl : k < ss.length := by omega
    obtain ⟨x, hxk⟩ : ∃ x, ss.getD k ⟨#[]⟩ = x := ⟨_, rfl⟩
    have hxs := hs x (by rw [← hxk, List.getD_eq_getElem?_getD, List.getElem?_eq_getElem hkl]; exact List.getElem_mem hkl)
    refine TC.skip ?_
    refine TQ.then ?_
    refine TC.seq ?_
    refine TC.block ?_
    refine TC.seq ?_
    refine TC.region ?_   -- region 3 ref.go:30
    refine TL.opV rfl (op_index tsl_string rfl hr rfl (by omega) (by omega)) ?_
    refine TL.opV rfl (op_loadR ts_string rfl hr (lkM (i := k) (d := (⟨#[]⟩ : ByteArray)) (by omega) hxk (by omega))) ?_
    refine TL.opP rfl (op_assign rfl) ?_
    refine TL.nil ?_
    refine TQ.then ?_
    refine TC.seq ?_
    refine TC.region ?_   -- region 4 ref.go:31
    refine TL.opP rfl (op_move rfl) ?_
    refine TL.opX rfl (OpX.callX en_23 rfl (rck_calls x hxs)) ?_; rintro _ _ ⟨rfl, rfl⟩
    refine TL.opP rfl (op_assign rfl) ?_
    refine TL.nil ?_
    refine TQ.then ?_
    refine TC.seq ?_
    refine TC.region ?_   -- region 5 ref.go:31
    refine TL.opP rfl (op_move rfl) ?_
    refine TL.opP rfl (op_neq rfl rfl) ?_
    refine TL.nil ?_
    refine TQ.then ?_
    first | refine TC.condD rfl (fun c2 => ?_) (fun c2 => ?_) | refine TC.condB rfl (fun c2 => ?_) (fun c2 => ?_)
    · refine TC.seq ?_
      refine TC.region ?_   -- region 6 ref.go:32
      refine TL.opP rfl (op_move rfl) ?_
      refine TL.opP rfl (op_assign rfl) ?_
      refine TL.nil ?_
      refine TQ.then ?_
      refine TC.ret ?_
      refine TQ.block_ret ?_
      refine TQ.then_ret ?_
      refine TQ.loop_ret ?_
      refine TQ.block_ret ?_
      refine TQ.then_ret ?_
      refine ret1 rfl rfl (fun w' hp => ?_)
      first
        | exact ⟨_, _, rfl, ⟨by rw [← hI.2, drop_getDs hkl hxk, allT, if_pos c2], rfl⟩, (hp)⟩
        | exact ⟨_, _, rfl, ⟨by rw [← hI.2, List.drop_eq_nil_of_le (by omega)]; rfl, rfl⟩, (hp)⟩
    · refine TC.skip ?_
      refine TQ.block_normal ?_
      refine TQ.then ?_
      refine TC.region ?_   -- region 7 ref.go:30
      refine TL.opP rfl (op_add rfl rfl rfl (by omega) (by omega)) ?_
      refine TL.opP rfl (op_move rfl) ?_
      refine TL.nil ?_
      exact TQ.round (k + 1) (⟨by omega, by rw [← hI.2, drop_getDs hkl hxk, allT, if_neg c2]⟩) (by omega) ⟨rfl, rfl, rfl, trivial⟩ (fun _ h => h)
  · refine TC.exit ?_
    refine TQ.then_exit ?_
    refine TQ.loop_exit ?_
    refine TQ.block_hit ?_
    refine TQ.then ?_
    refine TC.seq ?_
    refine TC.region ?_   -- region 8 ref.go:35
    refine TL.opP rfl (op_assign rfl) ?_
    refine TL.nil ?_
    refine TQ.then ?_
    refine TC.ret ?_
    refine ret1 rfl rfl (fun w' hp => ?_)
    first
      | exact ⟨_, _, rfl, ⟨by rw [← hI.2, drop_getDs hkl hxk, allT, if_pos c2], rfl⟩, (hp)⟩
      | exact ⟨_, _, rfl, ⟨by rw [← hI.2, List.drop_eq_nil_of_le (by omega)]; rfl, rfl⟩, (hp)⟩

theorem all2_x (s t : ByteArray) (v : Value) (hs : s.size ≤ 70368744177664) (ht : t.size ≤ 70368744177664) (hr : Rdb L v 1 2 [.string s, .string t]) : CallX Tryd.prog 60 [v] S w0 L (fun u L' => u = .int .i64 (ck2 s t) ∧ L' = L) := by
  have := rall_x (S := S) (w0 := w0) [s, t] v (by intro x hx; simp only [List.mem_cons, List.not_mem_nil, or_false] at hx; rcases hx with rfl | rfl <;> assumption) hr
  rw [allT2] at this; exact this
theorem lkVal {vals : List Value} {i k : Nat} {d : Value} (h : i < vals.length) (hk : k = i) : vals[k]? = some (vals.getD i d) := by
  subst hk; rw [List.getD_eq_getElem?_getD, List.getElem?_eq_getElem h]; rfl
theorem row_lenV {v : Value} {e m : Nat} {l : List Value} {w : World} (h : Hp S w0 w (.row v e 1 m l :: L)) : Hp S w0 w (.row v e 1 l.length l :: L) := by
  have h1 : w.ownsRow 0 e 1 v m l := h.at_ _ (.head _)
  have h2 : l.length = m := by have := h1.1; omega
  rw [h2]; exact h
def RowsOk (a b : List Int) (vals : List Value) (es : List Ent) : Prop := vals.length = a.length + 1 ∧ ∀ i, i ≤ a.length → ((vals.getD i .nilFunc, (lrow a b i).length, (lrow a b i).map iv64) : Ent) ∈ es
structure RI (a b : List Int) (i : Nat) (vals : List Value) (es : List Ent) : Prop where
  ile : i ≤ a.length
  len : vals.length = i + 1
  mem : ∀ j, j ≤ i → ((vals.getD j .nilFunc, (lrow a b (a.length - i + j)).length, (lrow a b (a.length - i + j)).map iv64) : Ent) ∈ es
  one : ∀ v ∈ vals, v.oneCell' = true
theorem RI.start (a b : List Int) {v : Value} (h : v.oneCell' = true) : RI a b 0 [v] [(v, (lrow a b a.length).length, (lrow a b a.length).map iv64)] :=
  ⟨Nat.zero_le _, rfl, fun j hj => by obtain rfl : j = 0 := by omega
                                      exact .head _, fun u hu => by rw [List.mem_singleton.1 hu]; exact h⟩
section
variable {a b : List Int} {i : Nat} {vals : List Value} {es : List Ent}
theorem RI.zero (h : RI a b i vals es) : ((vals.getD 0 .nilFunc, (lrow a b (a.length - i)).length, (lrow a b (a.length - i)).map iv64) : Ent) ∈ es := h.mem 0 (Nat.zero_le _)
theorem RI.next (h : RI a b i vals es) (hi : i < a.length) {v : Value} (hv : v.oneCell' = true) : RI a b (i + 1) (v :: vals) ((v, (lrow a b (a.length - 1 - i)).length, (lrow a b (a.length - 1 - i)).map iv64) :: es) := by
  refine ⟨by omega, by rw [List.length_cons, h.len], fun j hj => ?_, fun u hu => ?_⟩
  · cases j with
    | zero => rw [show a.length - (i + 1) + 0 = a.length - 1 - i by omega]; exact .head _
    | succ j =>
      have := h.mem j (by omega)
      rw [show a.length - (i + 1) + (j + 1) = a.length - i + j by omega]
      exact .tail _ this
  · rcases List.mem_cons.1 hu with rfl | hu
    · exact hv
    · exact h.one u hu
theorem RI.stop (h : RI a b i vals es) (hi : a.length ≤ i) : RowsOk a b vals es := by
  have hil := h.ile
  refine ⟨by rw [h.len]; omega, fun j hj => ?_⟩
  have := h.mem j (by omega)
  rw [show a.length - i + j = j by omega] at this
  exact this
end
theorem rows_x (a b : List Int) (va vb : Value) (ha : a.length ≤ 1024) (hb : b.length ≤ 1024) (ra : Rdb L va 1 a.length (a.map (Value.int .i32))) (rb : Rdb L vb 1 b.length (b.map (Value.int .i32))) :
    CallX Tryd.prog 62 [va, vb] S w0 (L) (fun u L' => ∃ v' vals es, u = v' ∧ RowsOk a b vals es ∧ L' = .row v' 97 1 vals.length vals :: col 1 es :: L) := by
  intro w hp
  refine calls_start Tryd.func62 rfl rfl rfl (hp) ?_
  refine TC.seq ?_
  refine TC.region ?_   -- region 0 ref.go:48
  refine TL.opP rfl (op_assign rfl) ?_
  refine TL.nil ?_
  refine TQ.then ?_
  refine TC.seq ?_
  refine TC.region ?_   -- region 1 ref.go:49
  refine TL.opP rfl (op_move rfl) ?_
  refine TL.opV rfl (op_lenV rfl un_sl_int32 rfl rb) ?_
  refine TL.opP rfl (op_add rfl rfl rfl (by omega) (by omega)) ?_
  refine TL.opX rfl (OpX.make (m := (b.length + 1)) (zs := ((List.replicate (b.length + 1) 0).map iv64)) tsl_int rfl rfl (by omega) (by decide) (by omega) (made_i64 _)) ?_; rintro v1 _ rfl
  refine TL.know (fun _ h => row1 h) (fun o1 => ?_)
  refine TL.hp (fun _ h => col_addR (col_nil 1 (by rw [lrow_last a] at h; exact row_lenM h)).pick1) ?_
  refine TL.opX rfl (OpX.buildSlice (ps := #[(0, _)]) rfl (bs_sl_int_1 _)) ?_; rintro _ _ ⟨g16, rfl, rfl⟩
  refine TL.hp (fun _ h => blk_row (k := 1) (m := 1) h rfl (by decide)) ?_
  refine TL.opP rfl (op_assign rfl) ?_
  refine TL.nil ?_
  refine TQ.then ?_
  refine TC.seq ?_
  refine TC.seq ?_
  refine TC.region ?_   -- region 2 ref.go:50
  refine TL.opP rfl (op_move rfl) ?_
  refine TL.opV rfl (op_lenV rfl un_sl_int32 rfl ra.cons.cons) ?_
  refine TL.opP rfl (op_move rfl) ?_
  refine TL.nil ?_
  refine TQ.then ?_
  refine TC.block ?_
  refine TC.loop (ι := Nat × List Value × List Ent × Value) (fun (i, vals, es, ov) => [(0, va), (1, vb), (5, ov), (18, .int .i64 (a.length : Int)), (19, .int .i64 (i : Int))]) (fun (i, vals, es, ov) => .row ov 97 1 vals.length vals :: col 1 es :: L) (fun (i, vals, es, ov) => RI a b i vals es) (fun (i, vals, es, ov) => a.length - i) ((0, [v1], [(v1, (lrow a b a.length).length, (lrow a b a.length).map iv64)], .slice (some ⟨g16, 0, none⟩) 1 1)) ((RI.start a b (by assumption))) ⟨rfl, rfl, rfl, rfl, rfl, trivial⟩ (fun _ h => h) ?_
  rintro ⟨i, vals, es, ov⟩ (hI : RI a b i vals es)
  have hil := hI.ile
  have hvl := hI.len
  have hbl := hI.zero
  show TC _ _ _ _ [(0, va), (1, vb), (5, ov), (18, .int .i64 (a.length : Int)), (19, .int .i64 (i : Int))] _ _ (.row ov 97 1 vals.length vals :: col 1 es :: L)
  refine TC.seq ?_
  refine TC.region ?_   -- region 3 ref.go:50
  refine TL.opP rfl (op_lss rfl rfl) ?_
  refine TL.nil ?_
  refine TQ.then ?_
  refine TC.seq ?_
  first | refine TC.condD rfl (fun c1 => ?_) (fun c1 => ?_) | refine TC.condB rfl (fun c1 => ?_) (fun c1 => ?_)
  · refine TC.skip ?_
    refine TQ.then ?_
    refine TC.seq ?_
    refine TC.block ?_
    refine TC.seq ?_
    refine TC.region ?_   -- region 4 ref.go:50
    refine TL.opP rfl (op_move rfl) ?_
    refine TL.opP rfl (op_assign rfl) ?_
    refine TL.nil ?_
    refine TQ.then ?_
    refine TC.seq ?_
    refine TC.region ?_   -- region 5 ref.go:51
    refine TL.opP rfl (op_move rfl) ?_
    refine TL.opP rfl (op_move rfl) ?_
    refine TL.opV rfl (op_lenV rfl un_sl_int32 rfl ra.cons.cons) ?_
    refine TL.opP rfl (op_sub (r := ((a.length - 1 : Nat) : Int)) rfl rfl (by omega) (by omega) (by omega)) ?_
    refine TL.opP rfl (op_move rfl) ?_
    refine TL.opP rfl (op_sub (r := (((a.length - 1 - i : Nat)) : Int)) rfl rfl (by omega) (by omega) (by omega)) ?_
    refine TL.opV rfl (op_index tsl_int32 rfl ra.cons.cons rfl (by omega) (by omega)) ?_
    refine TL.opV rfl (op_loadR ts_int32 rfl ra.cons.cons (lkM (i := (a.length - 1 - i)) (d := 0) (by omega) rfl (by omega))) ?_
    refine TL.opP rfl (op_assign rfl) ?_
    refine TL.nil ?_
    refine TQ.then ?_
    refine TC.seq ?_
    refine TC.region ?_   -- region 6 ref.go:52
    refine TL.opP rfl (op_move rfl) ?_
    refine TL.opV rfl (op_index tsl_sl_int rfl rw0 rfl (by omega) (by omega)) ?_
    refine TL.opV rfl (op_loadR ts_sl_int rfl rw0 (lkVal (i := 0) (d := .nilFunc) (by omega) (by omega))) ?_
    refine TL.opP rfl (op_assign rfl) ?_
    refine TL.nil ?_
    refine TQ.then ?_
    refine TC.seq ?_
    refine TC.region ?_   -- region 7 ref.go:53
    refine TL.opP rfl (op_move rfl) ?_
    refine TL.opV rfl (op_lenV rfl un_sl_int32 rfl rb.cons.cons) ?_
    refine TL.opP rfl (op_add rfl rfl rfl (by omega) (by omega)) ?_
    refine TL.opX rfl (OpX.make (m := (b.length + 1)) (zs := ((List.replicate (b.length + 1) 0).map iv64)) tsl_int rfl rfl (by omega) (by decide) (by omega) (made_i64 _)) ?_; rintro v2 _ rfl
    refine TL.know (fun _ h => row1 h) (fun o2 => ?_)
    refine TL.hp (fun _ h => row_lenM h) ?_
    refine TL.opP rfl (op_assign rfl) ?_
    refine TL.nil ?_
    refine TQ.then ?_
    refine TC.seq ?_
    refine TC.seq ?_
    refine TC.region ?_   -- region 8 ref.go:54
    refine TL.opP rfl (op_move rfl) ?_
    refine TL.opV rfl (op_lenV rfl un_sl_int32 rfl rb.cons.cons.cons) ?_
    refine TL.opP rfl (op_move rfl) ?_
    refine TL.nil ?_
    refine TQ.then ?_
    refine TC.block ?_
    refine TC.loop (ι := Nat × List Nat) (fun (j, X) => [(0, va), (1, vb), (5, ov), (18, .int .i64 (a.length : Int)), (19, .int .i64 (i : Int)), (7, .int .i32 (a.getD (a.length - 1 - i) 0)), (8, (vals.getD 0 .nilFunc)), (9, v2), (38, .int .i64 (b.length : Int)), (39, .int .i64 (j : Int))]) (fun (j, X) => .row v2 3 1 (X).length ((X).map iv64) :: .row ov 97 1 vals.length vals :: col 1 es :: L) (fun (j, X) => KI a b (a.length - 1 - i) (b.length - j) X ∧ j ≤ b.length) (fun (j, X) => b.length - j) ((0, List.replicate (b.length + 1) 0)) (⟨KI.start _ _ _, Nat.zero_le _⟩) ⟨rfl, rfl, rfl, rfl, rfl, rfl, rfl, rfl, rfl, rfl, trivial⟩ (fun _ h => h) ?_
    rintro ⟨j, X⟩ ⟨hJ, hj⟩
    have hXl := hJ.len
    show TC _ _ _ _ [(0, va), (1, vb), (5, ov), (18, .int .i64 (a.length : Int)), (19, .int .i64 (i : Int)), (7, .int .i32 (a.getD (a.length - 1 - i) 0)), (8, (vals.getD 0 .nilFunc)), (9, v2), (38, .int .i64 (b.length : Int)), (39, .int .i64 (j : Int))] _ _ (.row v2 3 1 (X).length ((X).map iv64) :: .row ov 97 1 vals.length vals :: col 1 es :: L)
    refine TC.seq ?_
    refine TC.region ?_   -- region 9 ref.go:54
    refine TL.opP rfl (op_lss rfl rfl) ?_
    refine TL.nil ?_
    refine TQ.then ?_
    refine TC.seq ?_
    first | refine TC.condD rfl (fun c2 => ?_) (fun c2 => ?_) | refine TC.condB rfl (fun c2 => ?_) (fun c2 => ?_)
    · have hg1 := hJ.get (k := (b.length - j)) (by omega) (Nat.le_refl _)
      have hst := hJ.step (by omega) (by omega)
      have hle1 := lc_le a b (a.length - i) (b.length - j)
      have hrec := lc_rec (a := a) (b := b) (i := (a.length - 1 - i)) (k := (b.length - 1 - j)) (by omega) (by omega)
      have hthr := lc_three (a := a) (b := b) (i := (a.length - 1 - i)) (k := (b.length - 1 - j)) (by omega) (by omega)
      rw [show (a.length - 1 - i) + 1 = (a.length - i) by omega, show (b.length - 1 - j) + 1 = (b.length - j) by omega] at hrec hthr
      rw [show (b.length - j) - 1 = (b.length - 1 - j) by omega] at hst
      have hq1 : b.length - (j + 1) = (b.length - 1 - j) := by omega
      refine TC.skip ?_
      refine TQ.then ?_
      refine TC.seq ?_
      refine TC.block ?_
      refine TC.seq ?_
      refine TC.region ?_   -- region 10 ref.go:54
      refine TL.opP rfl (op_move rfl) ?_
      refine TL.opP rfl (op_assign rfl) ?_
      refine TL.nil ?_
      refine TQ.then ?_
      refine TC.seq ?_
      refine TC.region ?_   -- region 11 ref.go:55
      refine TL.opP rfl (op_move rfl) ?_
      refine TL.opV rfl (op_lenV rfl un_sl_int32 rfl rb.cons.cons.cons) ?_
      refine TL.opP rfl (op_sub (r := ((b.length - 1 : Nat) : Int)) rfl rfl (by omega) (by omega) (by omega)) ?_
      refine TL.opP rfl (op_move rfl) ?_
      refine TL.opP rfl (op_sub (r := ((b.length - 1 - j : Nat) : Int)) rfl rfl (by omega) (by omega) (by omega)) ?_
      refine TL.opP rfl (op_assign rfl) ?_
      refine TL.nil ?_
      refine TQ.then ?_
      refine TC.seq ?_
      refine TC.draw [13] (.cons (.p, 0) (.cons (.p, 1) (.cons (.p, 2) (.cons (.p, 3) (.cons (.p, 6) (.cons (.p, 7) (.cons (.p, 8) (.cons (.t, 4) (.cons (.t, 5) (.cons (.t, 9) (.cons (.t, 10) (.cons (.p, 11) (.cons (.t, 12) (.cons (.z, 13) (.nil))))))))))))))) mo (by kernel_rfl) ?_   -- region 12 ref.go:56
      refine TR.p rfl rfl wt0 (op_move rfl) ?_
      refine TR.p rfl rfl wt0 (op_move rfl) ?_
      refine TR.p rfl rfl wt0 (op_move rfl) ?_
      refine TR.p rfl rfl wt0 (op_move rfl) ?_
      refine TR.p rfl rfl wt0 (op_move rfl) ?_
      refine TR.p rfl rfl wt0 (op_move rfl) ?_
      refine TR.p rfl rfl wt0 (op_add (r := ((b.length - j : Nat) : Int)) rfl rfl (by omega) (by omega) (by omega)) ?_
      refine TR.t rfl rfl wt0 (op_index tsl_int rfl (Rdb.col m2 hbl) rfl (by first | omega | (simp only [lrow_len]; omega)) (by first | omega | (simp only [lrow_len]; omega))) (fun _ h => h) ?_
      refine TR.t rfl rfl wt0 (op_loadR ts_int rfl (Rdb.col m2 hbl) (lkM (i := (b.length - 1 - j)) (d := 0) (by rw [lrow_len]; omega) (lrow_get (by omega)) (by omega))) (fun _ h => h) ?_
      refine TR.t rfl rfl wt0 (op_index tsl_int rfl rw0 rfl (by omega) (by omega)) (fun _ h => h) ?_
      refine TR.t rfl rfl wt0 (op_loadR ts_int rfl rw0 (lkM (i := (b.length - j)) (d := 0) (by omega) hg1 (by omega))) (fun _ h => h) ?_
      refine TR.p rfl rfl wt0 (op_maxN rfl) ?_
      refine TR.t rfl rfl wt0 (op_index tsl_int rfl rw0 rfl (by omega) (by omega)) (fun _ h => h) ?_
      refine TR.z0 rfl wt0 (OpX.storeRow (k := 1) (fun w => by kernel_rfl) rfl rfl rfl (ys := [iv64 (max (lc a b (a.length - i) (b.length - 1 - j)) (lc a b (a.length - 1 - i) (b.length - j)))]) rfl (by decide) (List.all_eq_true.1 rfl) (by omega) (stM (i := (b.length - 1 - j)) (by omega) (by omega))) ?_; rintro _ _ rfl
      refine TR.hp (fun _ h => row_lenM h) ?_
      refine TR.nil ?_
      refine TQ.then ?_
      refine TC.seq ?_
      refine TC.region ?_   -- region 13 ref.go:57
      refine TL.opP rfl (op_move rfl) ?_
      refine TL.opP rfl (op_move rfl) ?_
      refine TL.opV rfl (op_index tsl_int32 rfl rb.cons.cons.cons rfl (by omega) (by omega)) ?_
      refine TL.opV rfl (op_loadR ts_int32 rfl rb.cons.cons.cons (lkM (i := (b.length - 1 - j)) (d := 0) (by omega) rfl (by omega))) ?_
      refine TL.opP rfl (op_move rfl) ?_
      refine TL.opP rfl (op_eql rfl rfl) ?_
      refine TL.nil ?_
      refine TQ.then ?_
      first | refine TC.condD rfl (fun c3 => ?_) (fun c3 => ?_) | refine TC.condB rfl (fun c3 => ?_) (fun c3 => ?_)
      · refine TC.draw [14] (.cons (.p, 0) (.cons (.p, 1) (.cons (.p, 2) (.cons (.p, 3) (.cons (.p, 6) (.cons (.p, 7) (.cons (.p, 8) (.cons (.t, 4) (.cons (.t, 5) (.cons (.t, 9) (.cons (.t, 10) (.cons (.p, 11) (.cons (.p, 12) (.cons (.t, 13) (.cons (.z, 14) (.nil)))))))))))))))) mo (by kernel_rfl) ?_   -- region 14 ref.go:58
        refine TR.p rfl rfl wt0 (op_move rfl) ?_
        refine TR.p rfl rfl wt0 (op_move rfl) ?_
        refine TR.p rfl rfl wt0 (op_move rfl) ?_
        refine TR.p rfl rfl wt0 (op_move rfl) ?_
        refine TR.p rfl rfl wt0 (op_move rfl) ?_
        refine TR.p rfl rfl wt0 (op_move rfl) ?_
        refine TR.p rfl rfl wt0 (op_add (r := ((b.length - j : Nat) : Int)) rfl rfl (by omega) (by omega) (by omega)) ?_
        refine TR.t rfl rfl wt0 (op_index tsl_int rfl rw0 rfl (by first | omega | (rw [List.length_set]; omega)) (by first | omega | (rw [List.length_set]; omega))) (fun _ h => h) ?_
        refine TR.t rfl rfl wt0 (op_loadR ts_int rfl rw0 (lkM (i := (b.length - 1 - j)) (d := 0) (by rw [List.length_set]; omega) (get_set (by omega)) (by omega))) (fun _ h => h) ?_
        refine TR.t rfl rfl wt0 (op_index tsl_int rfl (Rdb.col m2 hbl) rfl (by first | omega | (simp only [lrow_len]; omega)) (by first | omega | (simp only [lrow_len]; omega))) (fun _ h => h) ?_
        refine TR.t rfl rfl wt0 (op_loadR ts_int rfl (Rdb.col m2 hbl) (lkM (i := (b.length - j)) (d := 0) (by rw [lrow_len]; omega) (lrow_get (by omega)) (by omega))) (fun _ h => h) ?_
        refine TR.p rfl rfl wt0 (op_add (r := ((lc a b (a.length - i) (b.length - j) + 1 : Nat) : Int)) rfl rfl rfl (by omega) (by omega)) ?_
        refine TR.p rfl rfl wt0 (op_maxN rfl) ?_
        refine TR.t rfl rfl wt0 (op_index tsl_int rfl rw0 rfl (by first | omega | (rw [List.length_set]; omega)) (by first | omega | (rw [List.length_set]; omega))) (fun _ h => h) ?_
        refine TR.z0 rfl wt0 (OpX.storeRow (k := 1) (fun w => by kernel_rfl) rfl rfl rfl (ys := [iv64 (max (max (lc a b (a.length - i) (b.length - 1 - j)) (lc a b (a.length - 1 - i) (b.length - j))) (lc a b (a.length - i) (b.length - j) + 1))]) rfl (by decide) (List.all_eq_true.1 rfl) (by rw [List.length_set]; omega) (stM (i := (b.length - 1 - j)) (by rw [List.length_set]; omega) (by omega))) ?_; rintro _ _ rfl
        refine TR.hp (fun _ h => row_lenM h) ?_
        refine TR.nil ?_
        refine TQ.block_normal ?_
        refine TQ.then ?_
        refine TC.region ?_   -- region 15 ref.go:54
        refine TL.opP rfl (op_add rfl rfl rfl (by omega) (by omega)) ?_
        refine TL.opP rfl (op_move rfl) ?_
        refine TL.nil ?_
        exact TQ.round (j + 1, (X.set (b.length - 1 - j) (max (lc a b (a.length - i) (b.length - 1 - j)) (lc a b (a.length - 1 - i) (b.length - j)))).set (b.length - 1 - j) (max (max (lc a b (a.length - i) (b.length - 1 - j)) (lc a b (a.length - 1 - i) (b.length - j))) (lc a b (a.length - i) (b.length - j) + 1))) (⟨by rw [List.set_set, hq1, hthr c3.symm]; exact hst, by show j + 1 ≤ _; omega⟩) (by show _ - (j + 1) < _ - j; omega) ⟨rfl, rfl, rfl, rfl, rfl, rfl, rfl, rfl, rfl, rfl, trivial⟩ (fun _ h => h)
      · refine TC.skip ?_
        refine TQ.block_normal ?_
        refine TQ.then ?_
        refine TC.region ?_   -- region 15 ref.go:54
        refine TL.opP rfl (op_add rfl rfl rfl (by omega) (by omega)) ?_
        refine TL.opP rfl (op_move rfl) ?_
        refine TL.nil ?_
        exact TQ.round (j + 1, X.set (b.length - 1 - j) (max (lc a b (a.length - i) (b.length - 1 - j)) (lc a b (a.length - 1 - i) (b.length - j)))) (⟨by rw [hq1]; rw [hrec, if_neg (fun h => c3 h.symm)] at hst; exact hst, by show j + 1 ≤ _; omega⟩) (by show _ - (j + 1) < _ - j; omega) ⟨rfl, rfl, rfl, rfl, rfl, rfl, rfl, rfl, rfl, rfl, trivial⟩ (fun _ h => h)
    · obtain rfl : j = b.length := by omega
      rw [Nat.sub_self] at hJ
      obtain rfl := hJ.stop
      refine TC.exit ?_
      refine TQ.then_exit ?_
      refine TQ.loop_exit ?_
      refine TQ.block_hit ?_
      refine TQ.then ?_
      refine TC.region ?_   -- region 16 ref.go:61
      refine TL.opP rfl (op_move rfl) ?_
      refine TL.opX rfl (OpX.buildSlice (ps := #[(0, _)]) rfl (bs_sl_int_1 _)) ?_; rintro _ _ ⟨g82, rfl, rfl⟩
      refine TL.hp (fun _ h => blk_row (k := 1) (m := 1) h rfl (by decide)) ?_
      refine TL.opP rfl (op_move rfl) ?_
      refine TL.opX rfl (OpX.append (bytes := 24) tsl_sl_int (by decide) (by decide) rfl rw2 hI.one (by omega) (zs := v2 :: vals) rfl) ?_; rintro v3 _ rfl
      refine TL.know (fun _ h => row1 h) (fun o3 => ?_)
      refine TL.hp (fun _ h => row_lenV h) ?_
      refine TL.opP rfl (op_assign rfl) ?_
      refine TL.hp (fun _ h => h.pick3.pick2) ?_
      refine TL.hp (fun _ h => col_addR h) ?_
      refine TL.nil ?_
      refine TQ.block_normal ?_
      refine TQ.then ?_
      refine TC.region ?_   -- region 17 ref.go:50
      refine TL.opP rfl (op_add rfl rfl rfl (by omega) (by omega)) ?_
      refine TL.opP rfl (op_move rfl) ?_
      refine TL.nil ?_
      exact TQ.round (i + 1, v2 :: vals, (v2, (lrow a b (a.length - 1 - i)).length, (lrow a b (a.length - 1 - i)).map iv64) :: es, v3) (hI.next (by omega) (by assumption)) (by show _ - (i + 1) < _ - i; omega) ⟨rfl, rfl, rfl, rfl, rfl, trivial⟩ (fun _ h => h.drop2.pick1)
  · refine TC.exit ?_
    refine TQ.then_exit ?_
    refine TQ.loop_exit ?_
    refine TQ.block_hit ?_
    refine TQ.then ?_
    refine TC.seq ?_
    refine TC.region ?_   -- region 18 ref.go:63
    refine TL.opP rfl (op_move rfl) ?_
    refine TL.opP rfl (op_assign rfl) ?_
    refine TL.nil ?_
    refine TQ.then ?_
    refine TC.ret ?_
    refine ret1 rfl rfl (fun w' hp => ?_)
    exact ⟨_, _, rfl, ⟨_, _, _, rfl, hI.stop (by omega), rfl⟩, (hp)⟩

theorem rkept_x (s t : ByteArray) (hs : s.size ≤ 4398046511104) (ht : t.size ≤ 4398046511104) :
    CallX Tryd.prog 29 [.string s, .string t] S w0 (L) (fun u L' => u = .tuple #[.int .i64 (keptF s t), .int .i64 (diffE s t)] ∧ L' = L) := by
  intro w hp
  refine calls_start Tryd.func29 rfl rfl rfl (hp) ?_
  refine TC.seq ?_
  refine TC.region ?_   -- region 0 ref.go:67
  refine TL.opP rfl (op_assign rfl) ?_
  refine TL.opP rfl (op_assign rfl) ?_
  refine TL.nil ?_
  refine TQ.then ?_
  refine TC.seq ?_
  refine TC.seq ?_
  refine TC.region ?_   -- region 1 ref.go:68
  refine TL.opP rfl (op_move rfl) ?_
  refine TL.opP rfl (op_move rfl) ?_
  refine TL.opX rfl (OpX.buildSlice (ps := #[(0, _), (1, _)]) rfl (bs_string_2 _ _)) ?_; rintro _ _ ⟨g9, rfl, rfl⟩
  refine TL.hp (fun _ h => blk_row (k := 1) (m := 2) h rfl (by decide)) ?_
  refine TL.opX rfl (OpX.callX en_60 rfl (all2_x s t _ (by omega) (by omega) rw0)) ?_; rintro _ _ ⟨rfl, rfl⟩
  refine TL.opP rfl (op_assign rfl) ?_
  refine TL.nil ?_
  refine TQ.then ?_
  refine TC.seq ?_
  refine TC.region ?_   -- region 2 ref.go:68
  refine TL.opP rfl (op_move rfl) ?_
  refine TL.opP rfl (op_neq rfl rfl) ?_
  refine TL.nil ?_
  refine TQ.then ?_
  first | refine TC.condD rfl (fun c1 => ?_) (fun c1 => ?_) | refine TC.condB rfl (fun c1 => ?_) (fun c1 => ?_)
  · refine TC.seq ?_
    refine TC.region ?_   -- region 3 ref.go:69
    refine TL.opP rfl (op_move rfl) ?_
    refine TL.opP rfl (op_assign rfl) ?_
    refine TL.opP rfl (op_assign rfl) ?_
    refine TL.nil ?_
    refine TQ.then ?_
    refine TC.ret ?_
    refine TQ.then_ret ?_
    refine ret2 rfl rfl rfl (fun w' hp => ?_)
    first
      | exact ⟨_, _, rfl, ⟨by rw [show keptF s t = 0 from if_neg c1]; rfl, rfl⟩, (hp.tail)⟩
      | exact ⟨_, _, rfl, ⟨by rw [show diffE s t = 0 from hz, show keptF s t = _ from if_pos hz]; rfl, rfl⟩, (hp.tail)⟩
  · have hz : ck2 s t = 0 := Decidable.not_not.1 c1
    obtain ⟨_, _, hdl1, hdl2, _, hbs0⟩ := diffE_z hz
    refine TC.skip ?_
    refine TQ.then ?_
    refine TC.seq ?_
    refine TC.region ?_   -- region 4 ref.go:71
    refine TL.opP rfl (op_move rfl) ?_
    refine TL.opX rfl (OpX.callX en_61 rfl (rchars_x s (by omega))) ?_; rintro w2 _ ⟨_, rfl, rfl⟩
    refine TL.opP rfl (op_move rfl) ?_
    refine TL.opX rfl (OpX.callX en_61 rfl (rchars_x t (by omega))) ?_; rintro w3 _ ⟨_, rfl, rfl⟩
    refine TL.opX rfl (OpX.callX en_62 rfl (rows_x (dec s) (dec t) _ _ hdl1 hdl2 rw1 rw0)) ?_; rintro w4 _ ⟨_, vals, es, rfl, hro, rfl⟩
    have hvl := hro.1
    have hbl := hro.2 0 (Nat.zero_le _)
    refine TL.opV rfl (op_index tsl_sl_int rfl rw0 rfl (by omega) (by omega)) ?_
    refine TL.opV rfl (op_loadR ts_sl_int rfl rw0 (lkVal (i := 0) (d := .nilFunc) (by omega) (by omega))) ?_
    refine TL.opV rfl (op_index tsl_int rfl (Rdb.col m1 hbl) rfl (by first | omega | (simp only [lrow_len]; omega)) (by first | omega | (simp only [lrow_len]; omega))) ?_
    refine TL.opV rfl (op_loadR ts_int rfl (Rdb.col m1 hbl) (lkM (i := 0) (d := 0) (by rw [lrow_len]; omega) (lrow_get (Nat.zero_le _)) (by omega))) ?_
    refine TL.opP rfl (op_assign rfl) ?_
    refine TL.opP rfl (op_assign rfl) ?_
    refine TL.nil ?_
    refine TQ.then ?_
    refine TC.ret ?_
    refine ret2 rfl rfl rfl (fun w' hp => ?_)
    first
      | exact ⟨_, _, rfl, ⟨by rw [show keptF s t = 0 from if_neg c1]; rfl, rfl⟩, (hp.drop4.drop3.drop2.drop1.tail)⟩
      | exact ⟨_, _, rfl, ⟨by rw [show diffE s t = 0 from hz, show keptF s t = _ from if_pos hz]; rfl, rfl⟩, (hp.drop4.drop3.drop2.drop1.tail)⟩

end Go.SK
