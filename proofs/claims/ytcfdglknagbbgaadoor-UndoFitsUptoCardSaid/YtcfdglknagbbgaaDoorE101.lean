/- Walks: the guard of the laws of histories, and how much it lets in. -/
import Derived.Test.YtcfdglknagbbgaaDoorE100
import Derived.Test.YtcfdglknagbbgaaDoorP62
set_option linter.unusedVariables false
set_option linter.unusedSimpArgs false
set_option maxRecDepth 100000
namespace Go.SK
open Go Go.RowKit Go.Proofs
variable {S : Nat → Prop} {w0 : World} {F L : List Res}
theorem rd_col {w : World} {es : List Ent} {x : Ent} (hm : col 3 es ∈ L) (hx : x ∈ es) (h : Hp S w0 w L) : Hp S w0 w (.rd x.1 3 x.2.1 x.2.2 :: L) :=
  h.derive ((h.at_ _ hm : ∀ x ∈ es, RdRow w x.1 3 x.2.1 x.2.2) x hx) (fun x => x) (fun g hg => ⟨_, hm, fun x => x, ⟨x, hx, hg⟩⟩)
theorem lk_tail {T : List ByteArray} {k kk : Nat} (h : k + 1 < T.length) (hk : kk = k) : (((T.map Value.string).drop (1 * 1)).take ((T.length - 1) * 1))[kk]? = some (.string (T.getD (k + 1) ⟨#[]⟩)) := by
  subst hk
  rw [List.getElem?_take, if_pos (by omega), List.getElem?_drop, List.getElem?_map, List.getD_eq_getElem?_getD, show 1 * 1 + kk = kk + 1 by omega, List.getElem?_eq_getElem h]
  rfl
/-- What the guard counts of all acts. -/
def mdsum : List DoE → Nat
  | [] => 0
  | d :: r => msum d.e + mdsum r
theorem mdsum_drop {l : List DoE} {i : Nat} {d : DoE} (h : i < l.length) (hd : l.getD i default = d) : mdsum (l.drop i) = msum d.e + mdsum (l.drop (i + 1)) := by
  rw [List.drop_eq_getElem_cons h]
  rw [List.getD_eq_getElem?_getD, List.getElem?_eq_getElem h] at hd
  simp only [Option.getD_some] at hd
  rw [hd]; rfl
theorem msum_drop {e : List Part} {k : Nat} {p : Part} (h : k < e.length) (hp : e.getD k default = p) : (msum (e.drop k) : Int) = minI (p.text.size : Int) 600 + msum (e.drop (k + 1)) := by
  rw [List.drop_eq_getElem_cons h]
  rw [List.getD_eq_getElem?_getD, List.getElem?_eq_getElem h] at hp
  simp only [Option.getD_some] at hp
  rw [hp, msum]
  unfold minI
  push_cast
  split <;> omega
theorem short_stop2 {s : ByteArray} {l : List DoE} {i : Nat} {n : Int} (h1 : i ≤ l.length) (h2 : minI (s.size : Int) 601 ≤ n) (h4 : l.length ≤ 120) (h5 : ¬ (i < l.length ∧ i ≤ 120 ∧ n ≤ 600)) (h6 : n ≤ 600) (hK : minI (s.size : Int) 601 + mdsum l ≤ n + mdsum (l.drop i)) : s.size + mdsum l ≤ 600 := by
  have hi : i = l.length := by omega
  have e1 : mdsum (l.drop i) = 0 := by rw [List.drop_of_length_le (by omega)]; rfl
  rw [e1] at hK
  unfold minI at h2 hK
  split at hK <;> split at h2 <;> omega
theorem ushort2_x (s : ByteArray) (l : List DoE) (vl : Value) (hss : s.size < 9223372036854775807) (ho : Rdb L vl 3 l.length (encs l)) (hr : ∀ d ∈ l, Rdb L d.v 3 d.e.length (encs d.e)) :
    CallX Tryd.prog 7 [.string s, vl] S w0 (L) (fun u L' => ∃ b, u = .bool b ∧ (b = true → ShortOk s l ∧ s.size + mdsum l ≤ 600) ∧ L' = L) := by
 intro w hp
 have hlen := ho.lenLe hp
 have hmn := minI_le (s.size : Int) 601
 have hm0 : 0 ≤ minI (s.size : Int) 601 := by unfold minI; split <;> omega
 refine calls_start Tryd.func7 rfl rfl rfl (hp) ?_
 refine TC.seq (TC.region (TL.opP rfl (op_assign rfl) (TL.nil (TQ.then (TC.seq (TC.region (TL.opP rfl (op_move rfl) (TL.opP rfl (op_slen rfl un_string rfl) (TL.opP rfl (op_min rfl) (TL.opP rfl (op_assign rfl) (TL.nil (TQ.then (TC.seq (TC.seq (TC.region (TL.opP rfl (op_assign rfl) (TL.nil (TQ.then (TC.block ?_)))))))))))))))))))
 refine TC.loop (ι := Nat × Int) (fun (i, n) => [(1, vl), (5, .int .i64 n), (6, .int .i64 (i : Int))]) (fun (i, n) => L) (fun (i, n) => (i ≤ l.length ∧ 0 ≤ n ∧ minI s.size 601 ≤ n ∧ n ≤ 601 ∧ ∀ j, j < i → DoOk (l.getD j default)) ∧ minI (s.size : Int) 601 + mdsum l ≤ n + mdsum (l.drop i)) (fun (i, n) => l.length - i) ((0, minI s.size 601)) (⟨⟨Nat.zero_le _, hm0, Int.le_refl _, by omega, fun j h => absurd h (by omega)⟩, by rw [List.drop_zero]; omega⟩) ⟨rfl, rfl, rfl, trivial⟩ (fun _ h => h) ?_
 rintro ⟨i, n⟩ (hIK : (i ≤ l.length ∧ 0 ≤ n ∧ minI s.size 601 ≤ n ∧ n ≤ 601 ∧ ∀ j, j < i → DoOk (l.getD j default)) ∧ minI (s.size : Int) 601 + mdsum l ≤ n + mdsum (l.drop i))
 obtain ⟨⟨hi1, hi2, hi3, hi4, hi5⟩, hK⟩ := hIK
 have hI := And.intro hi1 (And.intro hi2 (And.intro hi3 (And.intro hi4 hi5)))
 show TC _ _ _ _ [(1, vl), (5, .int .i64 n), (6, .int .i64 (i : Int))] _ _ (L)
 refine TC.seq (TC.seq (TC.region (TL.opP rfl (op_move rfl) (TL.opP rfl (op_move rfl) (TL.opV rfl (op_lenV rfl un_sl_sealskinlaw17_Do rfl ho) (TL.opP rfl (op_lss rfl rfl) (TL.opP rfl (op_move rfl) ?_)))))))
 first | refine TL.splitD (fun c1 => ?_) (fun c1 => ?_) | refine TL.splitB (fun c1 => ?_) (fun c1 => ?_)
 ·refine TL.gT rfl rfl (TL.opP rfl (op_move rfl) (TL.gT rfl rfl (TL.opP rfl (op_leq rfl rfl) (TL.opP rfl (op_pickT rfl rfl) (TL.opP rfl (op_move rfl) ?_)))))
  first | refine TL.splitD (fun c2 => ?_) (fun c2 => ?_) | refine TL.splitB (fun c2 => ?_) (fun c2 => ?_)
  ·refine TL.gT rfl rfl (TL.opP rfl (op_move rfl) (TL.gT rfl rfl (TL.opP rfl (op_leq rfl rfl) (TL.opP rfl (op_pickT rfl rfl) (TL.nil (TQ.then ?_))))))
   first | refine TC.condD rfl (fun c3 => ?_) (fun c3 => ?_) | refine TC.condB rfl (fun c3 => ?_) (fun c3 => ?_)
   ·have hkl0 : i < l.length := by omega
    obtain ⟨d, hdk⟩ : ∃ d, l.getD i default = d := ⟨_, rfl⟩
    have he := hr d (by rw [← hdk, List.getD_eq_getElem?_getD, List.getElem?_eq_getElem hkl0]; exact List.getElem_mem hkl0)
    have hmdr := mdsum_drop hkl0 hdk
    refine TC.skip (TQ.then (TC.seq (TC.block (TC.seq (TC.seq (TC.region (TL.opP rfl (op_move rfl) (TL.opP rfl (op_move rfl) (TL.opV rfl (op_index tsl_sealskinlaw17_Do rfl ho rfl (by omega) (by omega)) (TL.opP rfl (op_fieldA fld_sealskinlaw17_Do_E rfl) (TL.opV rfl (op_loadR ts_sl_api_Part rfl ho (lkD 2 hkl0 hdk (by omega) (by decide) rfl)) (TL.opV rfl (op_lenV rfl un_sl_api_Part rfl he) (TL.opP rfl (op_gtr rfl rfl) (TL.nil (TQ.then ?_)))))))))))))))
    first | refine TC.condD rfl (fun c4 => ?_) (fun c4 => ?_) | refine TC.condB rfl (fun c4 => ?_) (fun c4 => ?_)
    ·refine TC.seq (TC.region (TL.opP rfl (op_assign rfl) (TL.nil (TQ.then (TC.ret (TQ.then_ret (TQ.block_ret (TQ.then_ret (TQ.loop_ret (TQ.block_ret (TQ.then_ret ?_)))))))))))
     refine ret1 rfl rfl (fun w' hp => ?_)
     first
       | exact ⟨_, _, rfl, ⟨_, rfl, fun h => absurd h (by decide), rfl⟩, (hp)⟩
       | exact ⟨_, _, rfl, ⟨_, rfl, fun h => ⟨short_stop hI.1 hI.2.2.1 hI.2.2.2.2 (by omega) (by omega) (by simpa using h), short_stop2 hI.1 hI.2.2.1 (by omega) (by omega) (by simpa using h) hK⟩, rfl⟩, (hp)⟩
    ·refine TC.skip (TQ.then (TC.seq (TC.region (TL.opP rfl (op_move rfl) (TL.opP rfl (op_move rfl) (TL.opV rfl (op_index tsl_sealskinlaw17_Do rfl ho rfl (by omega) (by omega)) (TL.opP rfl (op_fieldA fld_sealskinlaw17_Do_E rfl) (TL.opV rfl (op_loadR ts_sl_api_Part rfl ho (lkD 2 hkl0 hdk (by omega) (by decide) rfl)) ?_))))))))
     refine TL.know (fun _ h => he.lenLe h) (fun hxl0 => (TL.opV rfl (op_lenV rfl un_sl_api_Part rfl he) (TL.opP rfl (op_move rfl) (TL.nil (TQ.then (TC.block ?_))))))
     refine TC.loop (ι := Nat × Int) (fun (k, n') => [(1, vl), (5, .int .i64 n'), (6, .int .i64 (i : Int)), (37, d.v), (38, .int .i64 (d.e.length : Int)), (39, .int .i64 (k : Int))]) (fun (k, n') => L) (fun (k, n') => (k ≤ d.e.length ∧ n ≤ n' ∧ 0 ≤ n' ∧ n' ≤ 600 ∧ ∀ j, j < k → ¬ (d.e.getD j default).kind = 2 → (d.e.getD j default).n ≤ 600) ∧ minI (s.size : Int) 601 + mdsum l ≤ n' + msum (d.e.drop k) + mdsum (l.drop (i + 1))) (fun (k, n') => d.e.length - k) ((0, n)) (⟨⟨Nat.zero_le _, Int.le_refl _, hi2, by omega, fun j h => absurd h (by omega)⟩, by rw [List.drop_zero]; omega⟩) ⟨rfl, rfl, rfl, rfl, rfl, rfl, trivial⟩ (fun _ h => h) ?_
     rintro ⟨k, n'⟩ (hJK : (k ≤ d.e.length ∧ n ≤ n' ∧ 0 ≤ n' ∧ n' ≤ 600 ∧ ∀ j, j < k → ¬ (d.e.getD j default).kind = 2 → (d.e.getD j default).n ≤ 600) ∧ minI (s.size : Int) 601 + mdsum l ≤ n' + msum (d.e.drop k) + mdsum (l.drop (i + 1)))
     obtain ⟨⟨hj1, hj2, hj3, hj4, hj5⟩, hK2⟩ := hJK
     have hJ := And.intro hj1 (And.intro hj2 (And.intro hj3 (And.intro hj4 hj5)))
     show TC _ _ _ _ [(1, vl), (5, .int .i64 n'), (6, .int .i64 (i : Int)), (37, d.v), (38, .int .i64 (d.e.length : Int)), (39, .int .i64 (k : Int))] _ _ (L)
     refine TC.seq (TC.region (TL.opP rfl (op_lss rfl rfl) (TL.nil (TQ.then (TC.seq ?_)))))
     first | refine TC.condD rfl (fun c5 => ?_) (fun c5 => ?_) | refine TC.condB rfl (fun c5 => ?_) (fun c5 => ?_)
     ·have hkl : k < d.e.length := by omega
      obtain ⟨p, hpk⟩ : ∃ p, d.e.getD k default = p := ⟨_, rfl⟩
      have hmn2 := minI_le (p.text.size : Int) 600
      have hm02 : 0 ≤ minI (p.text.size : Int) 600 := by unfold minI; split <;> omega
      have hmsr := msum_drop hkl hpk
      refine TC.skip (TQ.then (TC.seq (TC.block (TC.seq (TC.region (TL.opV rfl (op_index tsl_api_Part rfl he rfl (by omega) (by omega)) (TL.opV rfl (op_loadRS tst_api_Part rfl he (cs := p.cs) rfl (lkS hkl hpk) (by decide)) ?_)))))))
      refine TL.opX rfl (OpX.alloc tz_api_Part rfl) ?_; rintro _ _ ⟨g8, rfl, rfl⟩
      refine TL.opX0 (OpX.storeS tst_api_Part rfl rfl rfl rfl rfl (List.all_eq_true.1 rfl)) ?_; rintro _ _ rfl
      refine TL.nil (TQ.then (TC.seq (TC.region (TL.opP rfl (op_move rfl) (TL.opP rfl (op_field fld_api_Part_Text rfl) (TL.opV rfl (op_load ts_string rfl m0 rfl) (TL.opP rfl (op_slen rfl un_string rfl) (TL.opP rfl (op_min rfl) (TL.opP rfl (op_add rfl rfl rfl (by omega) (by omega)) (TL.opP rfl (op_assign rfl) (TL.nil (TQ.then (TC.seq (TC.region (TL.opP rfl (op_move rfl) (TL.opP rfl (op_gtr rfl rfl) (TL.opP rfl (op_move rfl) ?_)))))))))))))))))
      first | refine TL.splitD (fun c6 => ?_) (fun c6 => ?_) | refine TL.splitB (fun c6 => ?_) (fun c6 => ?_)
      ·refine TL.gFt rfl rfl rfl (TL.gFt rfl rfl rfl (TL.gFt rfl rfl rfl (TL.gFt rfl rfl rfl (TL.gU rfl rfl rfl (TL.gU rfl rfl rfl (TL.gU rfl rfl rfl (TL.gFt rfl rfl rfl (TL.opP rfl (op_pickT rfl rfl) (TL.nil (TQ.then (TC.condT rfl (TC.seq (TC.region (TL.opP rfl (op_assign rfl) (TL.nil (TQ.then (TC.ret (TQ.block_ret (TQ.then_ret (TQ.loop_ret (TQ.block_ret (TQ.block_ret (TQ.then_ret (TQ.loop_ret (TQ.block_ret (TQ.then_ret ?_))))))))))))))))))))))))))
       refine ret1 rfl rfl (fun w' hp => ?_)
       first
         | exact ⟨_, _, rfl, ⟨_, rfl, fun h => absurd h (by decide), rfl⟩, (hp.tail)⟩
         | exact ⟨_, _, rfl, ⟨_, rfl, fun h => ⟨short_stop hI.1 hI.2.2.1 hI.2.2.2.2 (by omega) (by omega) (by simpa using h), short_stop2 hI.1 hI.2.2.1 (by omega) (by omega) (by simpa using h) hK⟩, rfl⟩, (hp.tail)⟩
      ·refine TL.gT rfl rfl (TL.opP rfl (op_field fld_api_Part_Kind rfl) (TL.gT rfl rfl (TL.opV rfl (op_load ts_int rfl m0 rfl) (TL.gT rfl rfl (TL.opP rfl (op_neq rfl rfl) (TL.gT rfl rfl (TL.opP rfl (op_move rfl) ?_)))))))
       first | refine TL.splitD (fun c7 => ?_) (fun c7 => ?_) | refine TL.splitB (fun c7 => ?_) (fun c7 => ?_)
       ·refine TL.gT rfl rfl (TL.opP rfl (op_field fld_api_Part_N rfl) (TL.gT rfl rfl (TL.opV rfl (op_load ts_int rfl m0 rfl) (TL.gT rfl rfl (TL.opP rfl (op_gtr rfl rfl) (TL.gT rfl rfl (TL.opP rfl (op_pickT rfl rfl) (TL.opP rfl (op_pickF rfl rfl) (TL.nil (TQ.then ?_))))))))))
        first | refine TC.condD rfl (fun c8 => ?_) (fun c8 => ?_) | refine TC.condB rfl (fun c8 => ?_) (fun c8 => ?_)
        ·refine TC.seq (TC.region (TL.opP rfl (op_assign rfl) (TL.nil (TQ.then (TC.ret (TQ.block_ret (TQ.then_ret (TQ.loop_ret (TQ.block_ret (TQ.block_ret (TQ.then_ret (TQ.loop_ret (TQ.block_ret (TQ.then_ret ?_))))))))))))))
         refine ret1 rfl rfl (fun w' hp => ?_)
         first
           | exact ⟨_, _, rfl, ⟨_, rfl, fun h => absurd h (by decide), rfl⟩, (hp.tail)⟩
           | exact ⟨_, _, rfl, ⟨_, rfl, fun h => ⟨short_stop hI.1 hI.2.2.1 hI.2.2.2.2 (by omega) (by omega) (by simpa using h), short_stop2 hI.1 hI.2.2.1 (by omega) (by omega) (by simpa using h) hK⟩, rfl⟩, (hp.tail)⟩
        ·refine TC.skip (TQ.block_normal (TQ.then (TC.region (TL.opP rfl (op_add rfl rfl rfl (by omega) (by omega)) (TL.opP rfl (op_move rfl) (TL.nil ?_))))))
         exact TQ.round (k + 1, n' + minI p.text.size 600) (⟨⟨by omega, by omega, by omega, by omega, pd_next hj5 hpk (by first | (intro hk2; omega) | (intro hk2; exact absurd (by assumption) hk2))⟩, by omega⟩) (by show _ - (k + 1) < _ - k; omega) ⟨rfl, rfl, rfl, rfl, rfl, rfl, trivial⟩ (fun _ h => h.tail)
       ·refine TL.gFf rfl rfl rfl (TL.gFf rfl rfl rfl (TL.gFf rfl rfl rfl (TL.gT rfl rfl (TL.opP rfl (op_pickF rfl rfl) (TL.opP rfl (op_pickF rfl rfl) (TL.nil (TQ.then (TC.condF rfl (TC.skip (TQ.block_normal (TQ.then (TC.region (TL.opP rfl (op_add rfl rfl rfl (by omega) (by omega)) (TL.opP rfl (op_move rfl) (TL.nil ?_)))))))))))))))
        exact TQ.round (k + 1, n' + minI p.text.size 600) (⟨⟨by omega, by omega, by omega, by omega, pd_next hj5 hpk (by first | (intro hk2; omega) | (intro hk2; exact absurd (by assumption) hk2))⟩, by omega⟩) (by show _ - (k + 1) < _ - k; omega) ⟨rfl, rfl, rfl, rfl, rfl, rfl, trivial⟩ (fun _ h => h.tail)
     ·refine TC.exit (TQ.then_exit (TQ.loop_exit (TQ.block_hit (TQ.block_normal (TQ.then (TC.region (TL.opP rfl (op_move rfl) (TL.opP rfl (op_add rfl rfl rfl (by omega) (by omega)) (TL.opP rfl (op_assign rfl) (TL.nil ?_))))))))))
      exact TQ.round (i + 1, n') (⟨⟨by omega, by omega, by omega, by omega, do_next hi5 hdk ⟨by omega, fun j hj => hJ.2.2.2.2 j (by omega)⟩⟩, by (have e1 : msum (d.e.drop k) = 0 := by rw [List.drop_of_length_le (by omega)]; rfl); omega⟩) (by show _ - (i + 1) < _ - i; omega) ⟨rfl, rfl, rfl, trivial⟩ (fun _ h => h)
   ·refine TC.exit (TQ.then_exit (TQ.loop_exit (TQ.block_hit (TQ.then (TC.seq (TC.region (TL.opP rfl (op_move rfl) (TL.opV rfl (op_lenV rfl un_sl_sealskinlaw17_Do rfl ho) (TL.opP rfl (op_leq rfl rfl) (TL.opP rfl (op_move rfl) ?_))))))))))
    first | refine TL.splitD (fun c9 => ?_) (fun c9 => ?_) | refine TL.splitB (fun c9 => ?_) (fun c9 => ?_)
    ·refine TL.gT rfl rfl (TL.opP rfl (op_move rfl) (TL.gT rfl rfl (TL.opP rfl (op_leq rfl rfl) (TL.opP rfl (op_pickT rfl rfl) (TL.opP rfl (op_assign rfl) (TL.nil (TQ.then (TC.ret ?_))))))))
     refine ret1 rfl rfl (fun w' hp => ?_)
     first
       | exact ⟨_, _, rfl, ⟨_, rfl, fun h => absurd h (by decide), rfl⟩, (hp)⟩
       | exact ⟨_, _, rfl, ⟨_, rfl, fun h => ⟨short_stop hI.1 hI.2.2.1 hI.2.2.2.2 (by omega) (by omega) (by simpa using h), short_stop2 hI.1 hI.2.2.1 (by omega) (by omega) (by simpa using h) hK⟩, rfl⟩, (hp)⟩
    ·refine TL.gFf rfl rfl rfl (TL.gFf rfl rfl rfl (TL.opP rfl (op_pickF rfl rfl) (TL.opP rfl (op_assign rfl) (TL.nil (TQ.then (TC.ret ?_))))))
     refine ret1 rfl rfl (fun w' hp => ?_)
     first
       | exact ⟨_, _, rfl, ⟨_, rfl, fun h => absurd h (by decide), rfl⟩, (hp)⟩
       | exact ⟨_, _, rfl, ⟨_, rfl, fun h => ⟨short_stop hI.1 hI.2.2.1 hI.2.2.2.2 (by omega) (by omega) (by simpa using h), short_stop2 hI.1 hI.2.2.1 (by omega) (by omega) (by simpa using h) hK⟩, rfl⟩, (hp)⟩
  ·refine TL.gFf rfl rfl rfl (TL.gFf rfl rfl rfl (TL.opP rfl (op_pickF rfl rfl) (TL.nil (TQ.then (TC.condF rfl (TC.exit (TQ.then_exit (TQ.loop_exit (TQ.block_hit (TQ.then (TC.seq (TC.region (TL.opP rfl (op_move rfl) (TL.opV rfl (op_lenV rfl un_sl_sealskinlaw17_Do rfl ho) (TL.opP rfl (op_leq rfl rfl) (TL.opP rfl (op_move rfl) ?_))))))))))))))))
   first | refine TL.splitD (fun c10 => ?_) (fun c10 => ?_) | refine TL.splitB (fun c10 => ?_) (fun c10 => ?_)
   ·refine TL.gT rfl rfl (TL.opP rfl (op_move rfl) (TL.gT rfl rfl (TL.opP rfl (op_leq rfl rfl) (TL.opP rfl (op_pickT rfl rfl) (TL.opP rfl (op_assign rfl) (TL.nil (TQ.then (TC.ret ?_))))))))
    refine ret1 rfl rfl (fun w' hp => ?_)
    first
      | exact ⟨_, _, rfl, ⟨_, rfl, fun h => absurd h (by decide), rfl⟩, (hp)⟩
      | exact ⟨_, _, rfl, ⟨_, rfl, fun h => ⟨short_stop hI.1 hI.2.2.1 hI.2.2.2.2 (by omega) (by omega) (by simpa using h), short_stop2 hI.1 hI.2.2.1 (by omega) (by omega) (by simpa using h) hK⟩, rfl⟩, (hp)⟩
   ·refine TL.gFf rfl rfl rfl (TL.gFf rfl rfl rfl (TL.opP rfl (op_pickF rfl rfl) (TL.opP rfl (op_assign rfl) (TL.nil (TQ.then (TC.ret ?_))))))
    refine ret1 rfl rfl (fun w' hp => ?_)
    first
      | exact ⟨_, _, rfl, ⟨_, rfl, fun h => absurd h (by decide), rfl⟩, (hp)⟩
      | exact ⟨_, _, rfl, ⟨_, rfl, fun h => ⟨short_stop hI.1 hI.2.2.1 hI.2.2.2.2 (by omega) (by omega) (by simpa using h), short_stop2 hI.1 hI.2.2.1 (by omega) (by omega) (by simpa using h) hK⟩, rfl⟩, (hp)⟩
 ·refine TL.gFf rfl rfl rfl (TL.gFf rfl rfl rfl (TL.opP rfl (op_pickF rfl rfl) (TL.opP rfl (op_move rfl) (TL.gFf rfl rfl rfl (TL.gFf rfl rfl rfl (TL.opP rfl (op_pickF rfl rfl) (TL.nil (TQ.then (TC.condF rfl (TC.exit (TQ.then_exit (TQ.loop_exit (TQ.block_hit (TQ.then (TC.seq (TC.region (TL.opP rfl (op_move rfl) (TL.opV rfl (op_lenV rfl un_sl_sealskinlaw17_Do rfl ho) (TL.opP rfl (op_leq rfl rfl) (TL.opP rfl (op_move rfl) ?_))))))))))))))))))))
  first | refine TL.splitD (fun c11 => ?_) (fun c11 => ?_) | refine TL.splitB (fun c11 => ?_) (fun c11 => ?_)
  ·refine TL.gT rfl rfl (TL.opP rfl (op_move rfl) (TL.gT rfl rfl (TL.opP rfl (op_leq rfl rfl) (TL.opP rfl (op_pickT rfl rfl) (TL.opP rfl (op_assign rfl) (TL.nil (TQ.then (TC.ret ?_))))))))
   refine ret1 rfl rfl (fun w' hp => ?_)
   first
     | exact ⟨_, _, rfl, ⟨_, rfl, fun h => absurd h (by decide), rfl⟩, (hp)⟩
     | exact ⟨_, _, rfl, ⟨_, rfl, fun h => ⟨short_stop hI.1 hI.2.2.1 hI.2.2.2.2 (by omega) (by omega) (by simpa using h), short_stop2 hI.1 hI.2.2.1 (by omega) (by omega) (by simpa using h) hK⟩, rfl⟩, (hp)⟩
  ·refine TL.gFf rfl rfl rfl (TL.gFf rfl rfl rfl (TL.opP rfl (op_pickF rfl rfl) (TL.opP rfl (op_assign rfl) (TL.nil (TQ.then (TC.ret ?_))))))
   refine ret1 rfl rfl (fun w' hp => ?_)
   first
     | exact ⟨_, _, rfl, ⟨_, rfl, fun h => absurd h (by decide), rfl⟩, (hp)⟩
     | exact ⟨_, _, rfl, ⟨_, rfl, fun h => ⟨short_stop hI.1 hI.2.2.1 hI.2.2.2.2 (by omega) (by omega) (by simpa using h), short_stop2 hI.1 hI.2.2.1 (by omega) (by omega) (by simpa using h) hK⟩, rfl⟩, (hp)⟩

end Go.SK
