/- Walks: layer 17, the laws' helpers and the example. -/
import Derived.Test.YtcfdglknagbbgaaDoorE48
import Derived.Test.YtcfdglknagbbgaaDoorMI
set_option linter.unusedVariables false
set_option linter.unusedSimpArgs false
set_option maxRecDepth 100000
namespace Go.SK
open Go Go.RowKit Go.Proofs
variable {S : Nat → Prop} {w0 : World} {F L : List Res}
structure DoE where
  op : Int
  n : Int
  v : Value
  e : List Part
  h : v.oneCell' = true
instance : Inhabited DoE := ⟨⟨0, 0, .slice none 0 0, [], rfl⟩⟩
instance : Enc DoE := ⟨3, fun d => [.int .i64 d.op, .int .i64 d.n, d.v], fun _ => rfl, by
  intro d u hu
  simp only [List.mem_cons, List.not_mem_nil, or_false] at hu
  rcases hu with rfl | rfl | rfl
  · rfl
  · rfl
  · exact d.h⟩
def DoOk (d : DoE) : Prop := d.e.length ≤ 100 ∧ ∀ j, j < d.e.length → ¬ (d.e.getD j default).kind = 2 → (d.e.getD j default).n ≤ 600
def ShortOk (s : ByteArray) (l : List DoE) : Prop := s.size ≤ 600 ∧ l.length ≤ 120 ∧ ∀ j, j < l.length → DoOk (l.getD j default)
theorem lkD {l : List DoE} {i k : Nat} {d : DoE} {v : Value} (j : Nat) (h : i < l.length) (hd : l.getD i default = d) (hk : k = i * 3 + j) (hj : j < 3) (hv : [Value.int .i64 d.op, .int .i64 d.n, d.v][j]? = some v) : (encs l)[k]? = some v := by
  rw [hk, show i * 3 + j = i * Enc.sz DoE + j from rfl, encs_get l i j h hj, hd]
  exact hv
theorem short_stop {s : ByteArray} {l : List DoE} {i : Nat} {n : Int} (h1 : i ≤ l.length) (h2 : minI (s.size : Int) 601 ≤ n) (h3 : ∀ j, j < i → DoOk (l.getD j default)) (h4 : l.length ≤ 120) (h5 : ¬ (i < l.length ∧ i ≤ 120 ∧ n ≤ 600)) (h6 : n ≤ 600) : ShortOk s l := by
  have hi : i = l.length := by omega
  subst hi
  refine ⟨?_, h4, h3⟩
  unfold minI at h2
  split at h2 <;> omega
theorem do_next {l : List DoE} {i : Nat} {d : DoE} (h : ∀ j, j < i → DoOk (l.getD j default)) (hd : l.getD i default = d) (hk : DoOk d) : ∀ j, j < i + 1 → DoOk (l.getD j default) := fun j hj => by
  rcases Nat.lt_or_ge j i with h1 | h1
  · exact h j h1
  · obtain rfl : j = i := by omega
    rw [hd]; exact hk
theorem pd_next {e : List Part} {i : Nat} {p : Part} (h : ∀ j, j < i → ¬ (e.getD j default).kind = 2 → (e.getD j default).n ≤ 600) (hd : e.getD i default = p) (hk : ¬ p.kind = 2 → p.n ≤ 600) : ∀ j, j < i + 1 → ¬ (e.getD j default).kind = 2 → (e.getD j default).n ≤ 600 := fun j hj => by
  rcases Nat.lt_or_ge j i with h1 | h1
  · exact h j h1
  · obtain rfl : j = i := by omega
    rw [hd]; exact hk
theorem ushort_x (s : ByteArray) (l : List DoE) (vl : Value) (hss : s.size < 9223372036854775807) (ho : Rdb L vl 3 l.length (encs l)) (hr : ∀ d ∈ l, Rdb L d.v 3 d.e.length (encs d.e)) :
    CallX Tryd.prog 7 [.string s, vl] S w0 (L) (fun u L' => ∃ b, u = .bool b ∧ (b = true → ShortOk s l) ∧ L' = L) := by
 intro w hp
 have hlen := ho.lenLe hp
 have hmn := minI_le (s.size : Int) 601
 have hm0 : 0 ≤ minI (s.size : Int) 601 := by unfold minI; split <;> omega
 refine calls_start Tryd.func7 rfl rfl rfl (hp) ?_
 refine TC.seq (TC.region (TL.opP rfl (op_assign rfl) (TL.nil (TQ.then (TC.seq (TC.region (TL.opP rfl (op_move rfl) (TL.opP rfl (op_slen rfl un_string rfl) (TL.opP rfl (op_min rfl) (TL.opP rfl (op_assign rfl) (TL.nil (TQ.then (TC.seq (TC.seq (TC.region (TL.opP rfl (op_assign rfl) (TL.nil (TQ.then (TC.block (TC.loop (ι := Nat × Int) (fun (i, n) => [(1, vl), (5, .int .i64 n), (6, .int .i64 (i : Int))]) (fun (i, n) => L) (fun (i, n) => i ≤ l.length ∧ 0 ≤ n ∧ minI s.size 601 ≤ n ∧ n ≤ 601 ∧ ∀ j, j < i → DoOk (l.getD j default)) (fun (i, n) => l.length - i) ((0, minI s.size 601)) (⟨Nat.zero_le _, hm0, Int.le_refl _, by omega, fun j h => absurd h (by omega)⟩) ⟨rfl, rfl, rfl, trivial⟩ (fun _ h => h) ?_))))))))))))))))))))
 rintro ⟨i, n⟩ (hI : i ≤ l.length ∧ 0 ≤ n ∧ minI s.size 601 ≤ n ∧ n ≤ 601 ∧ ∀ j, j < i → DoOk (l.getD j default))
 obtain ⟨hi1, hi2, hi3, hi4, hi5⟩ := hI
 have hI := And.intro hi1 (And.intro hi2 (And.intro hi3 (And.intro hi4 hi5)))
 show TC _ _ _ _ [(1, vl), (5, .int .i64 n), (6, .int .i64 (i : Int))] _ _ (L)
 refine TC.seq (TC.seq (TC.region (TL.opP rfl (op_move rfl) (TL.opP rfl (op_move rfl) (TL.opV rfl (op_lenV rfl un_sl_sealskinlaw17_Do rfl ho) (TL.opP rfl (op_lss rfl rfl) (TL.opP rfl (op_move rfl) ?_)))))))
 first | refine TL.splitD (fun c1 => ?_) (fun c1 => ?_) | refine TL.splitB (fun c1 => ?_) (fun c1 => ?_)
 ·refine TL.gT rfl rfl (TL.opP rfl (op_move rfl) (TL.gT rfl rfl (TL.opP rfl (op_leq rfl rfl) (TL.opP rfl (op_pickT rfl rfl) (TL.opP rfl (op_move rfl) ?_)))))
  first | refine TL.splitD (fun c2 => ?_) (fun c2 => ?_) | refine TL.splitB (fun c2 => ?_) (fun c2 => ?_)
  ·refine TL.gT rfl rfl (TL.opP rfl (op_move rfl) (TL.gT rfl rfl (TL.opP rfl (op_leq rfl rfl) (TL.opP rfl (op_pickT rfl rfl) (TL.nil (TQ.then ?_))))))
   first | refine TC.condD rfl (fun c3 => ?_) (fun c3 => ?_) | refine TC.condB rfl (fun c3 => ?_) (fun c3 => ?_)
   ·have hkl0 : i < l.length := by omega
    obtain ⟨d, hdk⟩ : ∃ d, l.getD i default = d := ⟨_, rfl⟩
    have he := hr d (by rw [← hdk, List.getD_eq_getElem?_getD, List.getElem?_eq_getElem hkl0]; exact List.getElem_mem hkl0)
    refine TC.skip (TQ.then (TC.seq (TC.block (TC.seq (TC.seq (TC.region (TL.opP rfl (op_move rfl) (TL.opP rfl (op_move rfl) (TL.opV rfl (op_index tsl_sealskinlaw17_Do rfl ho rfl (by omega) (by omega)) (TL.opP rfl (op_fieldA fld_sealskinlaw17_Do_E rfl) (TL.opV rfl (op_loadR ts_sl_api_Part rfl ho (lkD 2 hkl0 hdk (by omega) (by decide) rfl)) (TL.opV rfl (op_lenV rfl un_sl_api_Part rfl he) (TL.opP rfl (op_gtr rfl rfl) (TL.nil (TQ.then ?_)))))))))))))))
    first | refine TC.condD rfl (fun c4 => ?_) (fun c4 => ?_) | refine TC.condB rfl (fun c4 => ?_) (fun c4 => ?_)
    ·refine TC.seq (TC.region (TL.opP rfl (op_assign rfl) (TL.nil (TQ.then (TC.ret (TQ.then_ret (TQ.block_ret (TQ.then_ret (TQ.loop_ret (TQ.block_ret (TQ.then_ret ?_)))))))))))
     refine ret1 rfl rfl (fun w' hp => ?_)
     first
       | exact ⟨_, _, rfl, ⟨_, rfl, fun h => absurd h (by decide), rfl⟩, (hp)⟩
       | exact ⟨_, _, rfl, ⟨_, rfl, fun h => short_stop hI.1 hI.2.2.1 hI.2.2.2.2 (by omega) (by omega) (by simpa using h), rfl⟩, (hp)⟩
    ·refine TC.skip (TQ.then (TC.seq (TC.region (TL.opP rfl (op_move rfl) (TL.opP rfl (op_move rfl) (TL.opV rfl (op_index tsl_sealskinlaw17_Do rfl ho rfl (by omega) (by omega)) (TL.opP rfl (op_fieldA fld_sealskinlaw17_Do_E rfl) (TL.opV rfl (op_loadR ts_sl_api_Part rfl ho (lkD 2 hkl0 hdk (by omega) (by decide) rfl)) ?_))))))))
     refine TL.know (fun _ h => he.lenLe h) (fun hxl0 => (TL.opV rfl (op_lenV rfl un_sl_api_Part rfl he) (TL.opP rfl (op_move rfl) (TL.nil (TQ.then (TC.block (TC.loop (ι := Nat × Int) (fun (k, n') => [(1, vl), (5, .int .i64 n'), (6, .int .i64 (i : Int)), (37, d.v), (38, .int .i64 (d.e.length : Int)), (39, .int .i64 (k : Int))]) (fun (k, n') => L) (fun (k, n') => k ≤ d.e.length ∧ n ≤ n' ∧ 0 ≤ n' ∧ n' ≤ 600 ∧ ∀ j, j < k → ¬ (d.e.getD j default).kind = 2 → (d.e.getD j default).n ≤ 600) (fun (k, n') => d.e.length - k) ((0, n)) (⟨Nat.zero_le _, Int.le_refl _, hi2, by omega, fun j h => absurd h (by omega)⟩) ⟨rfl, rfl, rfl, rfl, rfl, rfl, trivial⟩ (fun _ h => h) ?_)))))))
     rintro ⟨k, n'⟩ (hJ : k ≤ d.e.length ∧ n ≤ n' ∧ 0 ≤ n' ∧ n' ≤ 600 ∧ ∀ j, j < k → ¬ (d.e.getD j default).kind = 2 → (d.e.getD j default).n ≤ 600)
     obtain ⟨hj1, hj2, hj3, hj4, hj5⟩ := hJ
     have hJ := And.intro hj1 (And.intro hj2 (And.intro hj3 (And.intro hj4 hj5)))
     show TC _ _ _ _ [(1, vl), (5, .int .i64 n'), (6, .int .i64 (i : Int)), (37, d.v), (38, .int .i64 (d.e.length : Int)), (39, .int .i64 (k : Int))] _ _ (L)
     refine TC.seq (TC.region (TL.opP rfl (op_lss rfl rfl) (TL.nil (TQ.then (TC.seq ?_)))))
     first | refine TC.condD rfl (fun c5 => ?_) (fun c5 => ?_) | refine TC.condB rfl (fun c5 => ?_) (fun c5 => ?_)
     ·have hkl : k < d.e.length := by omega
      obtain ⟨p, hpk⟩ : ∃ p, d.e.getD k default = p := ⟨_, rfl⟩
      have hmn2 := minI_le (p.text.size : Int) 600
      have hm02 : 0 ≤ minI (p.text.size : Int) 600 := by unfold minI; split <;> omega
      refine TC.skip (TQ.then (TC.seq (TC.block (TC.seq (TC.region (TL.opV rfl (op_index tsl_api_Part rfl he rfl (by omega) (by omega)) (TL.opV rfl (op_loadRS tst_api_Part rfl he (cs := p.cs) rfl (lkS hkl hpk) (by decide)) ?_)))))))
      refine TL.opX rfl (OpX.alloc tz_api_Part rfl) ?_; rintro _ _ ⟨g8, rfl, rfl⟩
      refine TL.opX0 (OpX.storeS tst_api_Part rfl rfl rfl rfl rfl (List.all_eq_true.1 rfl)) ?_; rintro _ _ rfl
      refine TL.nil (TQ.then (TC.seq (TC.region (TL.opP rfl (op_move rfl) (TL.opP rfl (op_field fld_api_Part_Text rfl) (TL.opV rfl (op_load ts_string rfl m0 rfl) (TL.opP rfl (op_slen rfl un_string rfl) (TL.opP rfl (op_min rfl) (TL.opP rfl (op_add rfl rfl rfl (by omega) (by omega)) (TL.opP rfl (op_assign rfl) (TL.nil (TQ.then (TC.seq (TC.region (TL.opP rfl (op_move rfl) (TL.opP rfl (op_gtr rfl rfl) (TL.opP rfl (op_move rfl) ?_)))))))))))))))))
      first | refine TL.splitD (fun c6 => ?_) (fun c6 => ?_) | refine TL.splitB (fun c6 => ?_) (fun c6 => ?_)
      ·refine TL.gFt rfl rfl rfl (TL.gFt rfl rfl rfl (TL.gFt rfl rfl rfl (TL.gFt rfl rfl rfl (TL.gU rfl rfl rfl (TL.gU rfl rfl rfl (TL.gU rfl rfl rfl (TL.gFt rfl rfl rfl (TL.opP rfl (op_pickT rfl rfl) (TL.nil (TQ.then (TC.condT rfl (TC.seq (TC.region (TL.opP rfl (op_assign rfl) (TL.nil (TQ.then (TC.ret (TQ.block_ret (TQ.then_ret (TQ.loop_ret (TQ.block_ret (TQ.block_ret (TQ.then_ret (TQ.loop_ret (TQ.block_ret (TQ.then_ret ?_))))))))))))))))))))))))))
       refine ret1 rfl rfl (fun w' hp => ?_)
       first
         | exact ⟨_, _, rfl, ⟨_, rfl, fun h => absurd h (by decide), rfl⟩, (hp.tail)⟩
         | exact ⟨_, _, rfl, ⟨_, rfl, fun h => short_stop hI.1 hI.2.2.1 hI.2.2.2.2 (by omega) (by omega) (by simpa using h), rfl⟩, (hp.tail)⟩
      ·refine TL.gT rfl rfl (TL.opP rfl (op_field fld_api_Part_Kind rfl) (TL.gT rfl rfl (TL.opV rfl (op_load ts_int rfl m0 rfl) (TL.gT rfl rfl (TL.opP rfl (op_neq rfl rfl) (TL.gT rfl rfl (TL.opP rfl (op_move rfl) ?_)))))))
       first | refine TL.splitD (fun c7 => ?_) (fun c7 => ?_) | refine TL.splitB (fun c7 => ?_) (fun c7 => ?_)
       ·refine TL.gT rfl rfl (TL.opP rfl (op_field fld_api_Part_N rfl) (TL.gT rfl rfl (TL.opV rfl (op_load ts_int rfl m0 rfl) (TL.gT rfl rfl (TL.opP rfl (op_gtr rfl rfl) (TL.gT rfl rfl (TL.opP rfl (op_pickT rfl rfl) (TL.opP rfl (op_pickF rfl rfl) (TL.nil (TQ.then ?_))))))))))
        first | refine TC.condD rfl (fun c8 => ?_) (fun c8 => ?_) | refine TC.condB rfl (fun c8 => ?_) (fun c8 => ?_)
        ·refine TC.seq (TC.region (TL.opP rfl (op_assign rfl) (TL.nil (TQ.then (TC.ret (TQ.block_ret (TQ.then_ret (TQ.loop_ret (TQ.block_ret (TQ.block_ret (TQ.then_ret (TQ.loop_ret (TQ.block_ret (TQ.then_ret ?_))))))))))))))
         refine ret1 rfl rfl (fun w' hp => ?_)
         first
           | exact ⟨_, _, rfl, ⟨_, rfl, fun h => absurd h (by decide), rfl⟩, (hp.tail)⟩
           | exact ⟨_, _, rfl, ⟨_, rfl, fun h => short_stop hI.1 hI.2.2.1 hI.2.2.2.2 (by omega) (by omega) (by simpa using h), rfl⟩, (hp.tail)⟩
        ·refine TC.skip (TQ.block_normal (TQ.then (TC.region (TL.opP rfl (op_add rfl rfl rfl (by omega) (by omega)) (TL.opP rfl (op_move rfl) (TL.nil ?_))))))
         exact TQ.round (k + 1, n' + minI p.text.size 600) (⟨by omega, by omega, by omega, by omega, pd_next hj5 hpk (by first | (intro hk2; omega) | (intro hk2; exact absurd (by assumption) hk2))⟩) (by show _ - (k + 1) < _ - k; omega) ⟨rfl, rfl, rfl, rfl, rfl, rfl, trivial⟩ (fun _ h => h.tail)
       ·refine TL.gFf rfl rfl rfl (TL.gFf rfl rfl rfl (TL.gFf rfl rfl rfl (TL.gT rfl rfl (TL.opP rfl (op_pickF rfl rfl) (TL.opP rfl (op_pickF rfl rfl) (TL.nil (TQ.then (TC.condF rfl (TC.skip (TQ.block_normal (TQ.then (TC.region (TL.opP rfl (op_add rfl rfl rfl (by omega) (by omega)) (TL.opP rfl (op_move rfl) (TL.nil ?_)))))))))))))))
        exact TQ.round (k + 1, n' + minI p.text.size 600) (⟨by omega, by omega, by omega, by omega, pd_next hj5 hpk (by first | (intro hk2; omega) | (intro hk2; exact absurd (by assumption) hk2))⟩) (by show _ - (k + 1) < _ - k; omega) ⟨rfl, rfl, rfl, rfl, rfl, rfl, trivial⟩ (fun _ h => h.tail)
     ·refine TC.exit (TQ.then_exit (TQ.loop_exit (TQ.block_hit (TQ.block_normal (TQ.then (TC.region (TL.opP rfl (op_move rfl) (TL.opP rfl (op_add rfl rfl rfl (by omega) (by omega)) (TL.opP rfl (op_assign rfl) (TL.nil ?_))))))))))
      exact TQ.round (i + 1, n') (⟨by omega, by omega, by omega, by omega, do_next hi5 hdk ⟨by omega, fun j hj => hJ.2.2.2.2 j (by omega)⟩⟩) (by show _ - (i + 1) < _ - i; omega) ⟨rfl, rfl, rfl, trivial⟩ (fun _ h => h)
   ·refine TC.exit (TQ.then_exit (TQ.loop_exit (TQ.block_hit (TQ.then (TC.seq (TC.region (TL.opP rfl (op_move rfl) (TL.opV rfl (op_lenV rfl un_sl_sealskinlaw17_Do rfl ho) (TL.opP rfl (op_leq rfl rfl) (TL.opP rfl (op_move rfl) ?_))))))))))
    first | refine TL.splitD (fun c9 => ?_) (fun c9 => ?_) | refine TL.splitB (fun c9 => ?_) (fun c9 => ?_)
    ·refine TL.gT rfl rfl (TL.opP rfl (op_move rfl) (TL.gT rfl rfl (TL.opP rfl (op_leq rfl rfl) (TL.opP rfl (op_pickT rfl rfl) (TL.opP rfl (op_assign rfl) (TL.nil (TQ.then (TC.ret ?_))))))))
     refine ret1 rfl rfl (fun w' hp => ?_)
     first
       | exact ⟨_, _, rfl, ⟨_, rfl, fun h => absurd h (by decide), rfl⟩, (hp)⟩
       | exact ⟨_, _, rfl, ⟨_, rfl, fun h => short_stop hI.1 hI.2.2.1 hI.2.2.2.2 (by omega) (by omega) (by simpa using h), rfl⟩, (hp)⟩
    ·refine TL.gFf rfl rfl rfl (TL.gFf rfl rfl rfl (TL.opP rfl (op_pickF rfl rfl) (TL.opP rfl (op_assign rfl) (TL.nil (TQ.then (TC.ret ?_))))))
     refine ret1 rfl rfl (fun w' hp => ?_)
     first
       | exact ⟨_, _, rfl, ⟨_, rfl, fun h => absurd h (by decide), rfl⟩, (hp)⟩
       | exact ⟨_, _, rfl, ⟨_, rfl, fun h => short_stop hI.1 hI.2.2.1 hI.2.2.2.2 (by omega) (by omega) (by simpa using h), rfl⟩, (hp)⟩
  ·refine TL.gFf rfl rfl rfl (TL.gFf rfl rfl rfl (TL.opP rfl (op_pickF rfl rfl) (TL.nil (TQ.then (TC.condF rfl (TC.exit (TQ.then_exit (TQ.loop_exit (TQ.block_hit (TQ.then (TC.seq (TC.region (TL.opP rfl (op_move rfl) (TL.opV rfl (op_lenV rfl un_sl_sealskinlaw17_Do rfl ho) (TL.opP rfl (op_leq rfl rfl) (TL.opP rfl (op_move rfl) ?_))))))))))))))))
   first | refine TL.splitD (fun c10 => ?_) (fun c10 => ?_) | refine TL.splitB (fun c10 => ?_) (fun c10 => ?_)
   ·refine TL.gT rfl rfl (TL.opP rfl (op_move rfl) (TL.gT rfl rfl (TL.opP rfl (op_leq rfl rfl) (TL.opP rfl (op_pickT rfl rfl) (TL.opP rfl (op_assign rfl) (TL.nil (TQ.then (TC.ret ?_))))))))
    refine ret1 rfl rfl (fun w' hp => ?_)
    first
      | exact ⟨_, _, rfl, ⟨_, rfl, fun h => absurd h (by decide), rfl⟩, (hp)⟩
      | exact ⟨_, _, rfl, ⟨_, rfl, fun h => short_stop hI.1 hI.2.2.1 hI.2.2.2.2 (by omega) (by omega) (by simpa using h), rfl⟩, (hp)⟩
   ·refine TL.gFf rfl rfl rfl (TL.gFf rfl rfl rfl (TL.opP rfl (op_pickF rfl rfl) (TL.opP rfl (op_assign rfl) (TL.nil (TQ.then (TC.ret ?_))))))
    refine ret1 rfl rfl (fun w' hp => ?_)
    first
      | exact ⟨_, _, rfl, ⟨_, rfl, fun h => absurd h (by decide), rfl⟩, (hp)⟩
      | exact ⟨_, _, rfl, ⟨_, rfl, fun h => short_stop hI.1 hI.2.2.1 hI.2.2.2.2 (by omega) (by omega) (by simpa using h), rfl⟩, (hp)⟩
 ·refine TL.gFf rfl rfl rfl (TL.gFf rfl rfl rfl (TL.opP rfl (op_pickF rfl rfl) (TL.opP rfl (op_move rfl) (TL.gFf rfl rfl rfl (TL.gFf rfl rfl rfl (TL.opP rfl (op_pickF rfl rfl) (TL.nil (TQ.then (TC.condF rfl (TC.exit (TQ.then_exit (TQ.loop_exit (TQ.block_hit (TQ.then (TC.seq (TC.region (TL.opP rfl (op_move rfl) (TL.opV rfl (op_lenV rfl un_sl_sealskinlaw17_Do rfl ho) (TL.opP rfl (op_leq rfl rfl) (TL.opP rfl (op_move rfl) ?_))))))))))))))))))))
  first | refine TL.splitD (fun c11 => ?_) (fun c11 => ?_) | refine TL.splitB (fun c11 => ?_) (fun c11 => ?_)
  ·refine TL.gT rfl rfl (TL.opP rfl (op_move rfl) (TL.gT rfl rfl (TL.opP rfl (op_leq rfl rfl) (TL.opP rfl (op_pickT rfl rfl) (TL.opP rfl (op_assign rfl) (TL.nil (TQ.then (TC.ret ?_))))))))
   refine ret1 rfl rfl (fun w' hp => ?_)
   first
     | exact ⟨_, _, rfl, ⟨_, rfl, fun h => absurd h (by decide), rfl⟩, (hp)⟩
     | exact ⟨_, _, rfl, ⟨_, rfl, fun h => short_stop hI.1 hI.2.2.1 hI.2.2.2.2 (by omega) (by omega) (by simpa using h), rfl⟩, (hp)⟩
  ·refine TL.gFf rfl rfl rfl (TL.gFf rfl rfl rfl (TL.opP rfl (op_pickF rfl rfl) (TL.opP rfl (op_assign rfl) (TL.nil (TQ.then (TC.ret ?_))))))
   refine ret1 rfl rfl (fun w' hp => ?_)
   first
     | exact ⟨_, _, rfl, ⟨_, rfl, fun h => absurd h (by decide), rfl⟩, (hp)⟩
     | exact ⟨_, _, rfl, ⟨_, rfl, fun h => short_stop hI.1 hI.2.2.1 hI.2.2.2.2 (by omega) (by omega) (by simpa using h), rfl⟩, (hp)⟩

theorem ubegun_x (s : ByteArray) (hs : s.size < 9223372036854775807) (hn : (rcount s : Int) ≤ 1048576) :
    CallX Tryd.prog 10 [.string s] S w0 (L) (fun u L' => ∃ g, u = .pointer (some ⟨g, 0, none⟩) ∧ L' = .blk g (.cells [(.slice none 0 0), (.slice none 0 0), .int .i64 (rcount s : Int), .bool true].toArray 66 (0, 0)) :: pileR (.slice none 0 0) [] :: pileR (.slice none 0 0) [] :: L) := by
 intro w hp
 refine calls_start Tryd.func10 rfl rfl rfl (hp) ?_
 refine TC.seq (TC.region (TL.opP rfl (op_assign rfl) (TL.nil (TQ.then (TC.seq (TC.region (TL.opP rfl (op_move rfl) (TL.callq rfl en_21 rfl (fun w2 hp => rcount_calls s w2 (by omega)) ?_))))))))
 refine TL.opX rfl (OpX.callX en_24 rfl (hnew_x _ (by omega) hn)) ?_; rintro _ _ ⟨g1, rfl, rfl⟩
 refine TL.opP rfl (op_move rfl) (TL.opP rfl (op_extract rfl rfl) (TL.opP rfl (op_extract rfl rfl) (TL.opP rfl (op_assign rfl) (TL.opP rfl (op_assign rfl) (TL.nil (TQ.then (TC.seq (TC.region (TL.opP rfl (op_move rfl) (TL.opP rfl (op_assign rfl) (TL.nil (TQ.then (TC.ret ?_)))))))))))))
 refine ret1 rfl rfl (fun w' hp => ?_)
 exact ⟨_, _, rfl, ⟨_, rfl, rfl⟩, (hp)⟩

theorem ureplace_x (n a k : Int) (s : ByteArray) (hs : s.size ≤ 4611686018427387904) (hT : tabs ∈ L) :
    CallX Tryd.prog 23 [.int .i64 n, .int .i64 a, .int .i64 k, .string s] S w0 (L) (fun u L' => ∃ v', u = v' ∧ L' = .row v' 50 3 (replF n a k s).length (encs (replF n a k s)) :: L) := by
 intro w hp
 refine calls_start Tryd.func23 rfl rfl rfl (hp) ?_
 refine TC.seq (TC.region (TL.opP rfl (op_assign rfl) (TL.nil (TQ.then (TC.seq (TC.region (TL.opP rfl (op_move rfl) (TL.opP rfl (op_move rfl) (TL.opP rfl (op_move rfl) (TL.opP rfl (op_move rfl) ?_))))))))))
 refine TL.opX rfl (OpX.callX en_41 rfl (replace_x n a k s hs hT)) ?_; rintro _ _ ⟨w1, rfl, rfl⟩
 refine TL.opP rfl (op_move rfl) (TL.opP rfl (op_extract rfl rfl) (TL.opP rfl (op_extract rfl rfl) (TL.opP rfl (op_assign rfl) (TL.opP rfl (op_assign rfl) (TL.nil (TQ.then (TC.seq (TC.region (TL.opP rfl (op_move rfl) (TL.opP rfl (op_assign rfl) (TL.nil (TQ.then (TC.ret ?_)))))))))))))
 refine ret1 rfl rfl (fun w' hp => ?_)
 exact ⟨_, _, rfl, ⟨_, rfl, rfl⟩, (hp)⟩

theorem uapplied_calls (e : List Part) (s : ByteArray) (v : Value) (hss : s.size ≤ 70368744177664) (w : World) (hT : Tabs w) (hs : ∀ p ∈ e, p.text.size < 9223372036854775807) (hv : RdRow w v 3 e.length (encs e)) :
    Calls Tryd.prog 16 (List.toArray [v, .string s]) w fun e' w' => e' = .returned (.string (applyF e s)) ∧ Kp NoB w w' := by
 have hlen : e.length ≤ 9223372036854775807 := by obtain ⟨_, A, c, _, h1, h2, _⟩ := hv; simp only [maxLen] at h2; omega
 refine calls_start Tryd.func16 rfl rfl rfl (Hp.i1 (r := .rd v 3 e.length (encs e)) hv) ?_
 refine TC.seq (TC.region (TL.opP rfl (op_assign rfl) (TL.nil (TQ.then (TC.seq (TC.region (TL.opP rfl (op_move rfl) (TL.opP rfl (op_move rfl) (TL.callq rfl en_11 rfl (fun w2 hp => apply_calls e s v hss w2 (hT.kp hp.kp) hs (rd0 _ _ _ hp)) (TL.opP rfl (op_move rfl) (TL.opP rfl (op_extract rfl rfl) (TL.opP rfl (op_extract rfl rfl) (TL.opP rfl (op_assign rfl) (TL.opP rfl (op_assign rfl) (TL.nil (TQ.then (TC.seq (TC.region (TL.opP rfl (op_move rfl) (TL.opP rfl (op_assign rfl) (TL.nil (TQ.then (TC.ret ?_)))))))))))))))))))))))
 refine ret1 rfl rfl (fun w' hp => ?_)
 exact ⟨rfl, hp.kp⟩

theorem uapplied_at {e : List Part} {s t : ByteArray} (v : Value) (w : World) (hT : Tabs w) (hss : s.size ≤ 70368744177664) (hs : small e) (h1 : applyF e s = t) (hv : RdRow w v 3 e.length (encs e)) :
    Calls Tryd.prog 16 (List.toArray [v, .string s]) w fun e' w' => e' = .returned (.string t) ∧ Kp NoB w w' := by
  have := uapplied_calls e s v hss w hT hs hv
  rw [h1] at this
  exact this
theorem uawake_calls (w : World) (hT : Tabs w) :
    Calls Tryd.prog 9 (List.toArray []) w fun e w' => e = .returned (.bool true) ∧ Kp NoB w w' := by
 refine calls_start Tryd.func9 rfl rfl rfl (Hp.i1 (r := tabs) hT) ?_
 refine TC.seq (TC.region (TL.opP rfl (op_assign rfl) (TL.nil (TQ.then (TC.seq (TC.region ?_))))))
 refine TL.opX rfl (OpX.callX en_10 rfl (ubegun_x ⟨#[97, 98]⟩ (by decide) (by decide))) ?_; rintro _ _ ⟨g1, rfl, rfl⟩
 refine TL.opP rfl (op_assign rfl) ?_
 have e0 : hsOf [] [] ((rcount ⟨#[97, 98]⟩ : Nat) : Int) = AW0 := by kernel_rfl
 obtain ⟨_, _, _, l0b, l0a⟩ := hs_eq e0
 refine TL.nil (TQ.then (TC.seq (TC.region (TL.opP rfl (op_move rfl) ?_))))
 refine TL.opX rfl (OpX.callX en_23 rfl (ureplace_x 2 1 0 sX (by decide) m3)) ?_; rintro w2 _ ⟨_, rfl, rfl⟩
 refine TL.hp (fun _ h => h.pick3.pick3.pick3) ?_
 refine TL.opX rfl (OpX.callX en_12 rfl (hmine_x (replF 2 1 0 sX) (sab) _ _ _ _ _ _ _ (sm_repl _ _ _ _) (by decide) (by first | omega | simp) m1 rw0)) ?_; rintro _ _ ⟨bv3, av3, hn3, pb3, pa3, rfl, hh3, rfl⟩
 obtain ⟨k1, g1⟩ := exg1
 rw [e0] at hh3
 rw [e0]
 have e1 : hsOf pb3 pa3 hn3 = AW1 := hh3
 obtain ⟨b1, a1, n1, l1b, l1a⟩ := hs_eq e1
 have y1 := g1.bl
 have y2 := g1.al
 refine TL.opP rfl (op_assign rfl) (TL.nil (TQ.then (TC.seq (TC.region (TL.opP rfl (op_move rfl) ?_)))))
 refine TL.opX rfl (OpX.callX en_23 rfl (ureplace_x 3 0 0 sY (by decide) m4)) ?_; rintro w4 _ ⟨_, rfl, rfl⟩
 refine TL.hp (fun _ h => row_rd h) (TL.hp (fun _ h => h.pick3.pick3.pick3) ?_)
 refine TL.opX rfl (OpX.callX en_13 rfl (htheirs_x (replF 3 0 0 sY) _ _ _ _ _ _ _ (sm_repl _ _ _ _) (by first | omega | simp) (by first | omega | simp) (fun _ => (by rw [b1]; exact exbes.1)) (fun _ => (by rw [a1]; exact exbes.2)) m2 (Src.rd m0).rdb)) ?_; rintro _ _ ⟨bv5, av5, hn5, pb5, pa5, rfl, hh5, rfl⟩
 obtain ⟨k2, g2⟩ := exg2
 rw [e1] at hh5
 rw [e1]
 have e2 : hsOf pb5 pa5 hn5 = AW2 := hh5
 obtain ⟨b2, a2, n2, l2b, l2a⟩ := hs_eq e2
 have z1 := g2.bl
 have z2 := g2.al
 refine TL.opP rfl (op_assign rfl) (TL.nil (TQ.then (TC.seq (TC.region (TL.opP rfl (op_move rfl) ?_)))))
 refine TL.opX rfl (OpX.callX en_14 rfl (hundo_x syaxb _ _ _ _ _ _ (sm_sn (by rw [b2]; exact g2.smb)) (by decide) (by first | omega | simp) (by first | omega | simp) m2)) ?_; rintro _ _ ⟨bv6, av6, hn6, pb6, pa6, ve6, rfl, hh6, rfl⟩
 refine TL.opP rfl (op_move rfl) ?_
 rw [e2] at hh6
 rw [e2]
 have e3 : hsOf pb6 pa6 hn6 = AW3 := hh6
 have g3 := exg3
 obtain ⟨b3, a3, n3, l3b, l3a⟩ := hs_eq e3
 have x1 := g3.bl
 have x2 := g3.al
 refine TL.opP rfl (op_extract rfl rfl) (TL.opP rfl (op_extract rfl rfl) (TL.opP rfl (op_assign rfl) (TL.opP rfl (op_assign rfl) (TL.nil (TQ.then (TC.seq (TC.region (TL.opP rfl (op_move rfl) (TL.hp (fun _ h => h.pick3.pick3.pick3) ?_)))))))))
 refine TL.opX rfl (OpX.callX en_15 rfl (hredo_x syab _ _ _ _ _ _ (sm_sn (by rw [a3]; exact g3.sma)) (by decide) (by first | omega | simp) (by first | omega | simp) m3)) ?_; rintro _ _ ⟨bv7, av7, hn7, pb7, pa7, ve7, rfl, hh7, rfl⟩
 refine TL.opP rfl (op_move rfl) ?_
 rw [e3] at hh7
 rw [e3]
 have e4 : hsOf pb7 pa7 hn7 = AW3.redo syab := hh7
 have n4 := (hs_eq e4).2.2.1
 rw [exr.2.2] at n4
 refine TL.opP rfl (op_extract rfl rfl) (TL.opP rfl (op_extract rfl rfl) (TL.opP rfl (op_assign rfl) (TL.opP rfl (op_assign rfl) (TL.nil (TQ.then (TC.seq (TC.region (TL.opP rfl (op_move rfl) (TL.opP rfl (op_eql rfl rfl) (TL.opP rfl (op_move rfl) ?_))))))))))
 first | refine TL.splitD (fun c1 => ?_) (fun c1 => ?_) | refine TL.splitB (fun c1 => ?_) (fun c1 => ?_)
 ·refine TL.gT rfl rfl (TL.opP rfl (op_move rfl) (TL.gT rfl rfl (TL.opP rfl (op_eql rfl rfl) (TL.opP rfl (op_pickT rfl rfl) (TL.opP rfl (op_move rfl) ?_)))))
  first | refine TL.splitD (fun c2 => ?_) (fun c2 => ?_) | refine TL.splitB (fun c2 => ?_) (fun c2 => ?_)
  ·refine TL.gT rfl rfl (TL.opP rfl (op_move rfl) (TL.gT rfl rfl (TL.opP rfl (op_eql rfl rfl) (TL.opP rfl (op_pickT rfl rfl) (TL.opP rfl (op_move rfl) ?_)))))
   first | refine TL.splitD (fun c3 => ?_) (fun c3 => ?_) | refine TL.splitB (fun c3 => ?_) (fun c3 => ?_)
   ·refine TL.gT rfl rfl (TL.opP rfl (op_move rfl) (TL.gT rfl rfl (TL.callq rfl en_16 rfl (fun w2 hp => uapplied_at _ w2 (tabs_at hp m7) (by decide) (moveF_sm g2.smb).1 exa (rw4 _ _ _ hp)) (TL.gT rfl rfl (TL.opP rfl (op_seql rfl rfl) (TL.opP rfl (op_pickT rfl rfl) (TL.opP rfl (op_move rfl) ?_)))))))
    first | refine TL.splitD (fun c4 => ?_) (fun c4 => ?_) | refine TL.splitB (fun c4 => ?_) (fun c4 => ?_)
    ·refine TL.gT rfl rfl (TL.opP rfl (op_move rfl) (TL.gT rfl rfl (TL.opP rfl (op_eql rfl rfl) (TL.opP rfl (op_pickT rfl rfl) (TL.opP rfl (op_move rfl) ?_)))))
     first | refine TL.splitD (fun c5 => ?_) (fun c5 => ?_) | refine TL.splitB (fun c5 => ?_) (fun c5 => ?_)
     ·refine TL.gT rfl rfl (TL.opP rfl (op_move rfl) (TL.gT rfl rfl (TL.callq rfl en_16 rfl (fun w2 hp => uapplied_at _ w2 (tabs_at hp m7) (by decide) (moveF_sm g3.sma).1 exr.2.1 (rw0 _ _ _ hp)) (TL.gT rfl rfl (TL.opP rfl (op_seql rfl rfl) (TL.opP rfl (op_pickT rfl rfl) (TL.opP rfl (op_move rfl) ?_)))))))
      first | refine TL.splitD (fun c6 => ?_) (fun c6 => ?_) | refine TL.splitB (fun c6 => ?_) (fun c6 => ?_)
      ·refine TL.gT rfl rfl (TL.opP rfl (op_move rfl) (TL.gT rfl rfl (TL.hp (fun _ h => h.pick1) ?_)))
       refine TL.opX rfl (OpX.callX en_20 rfl (hsize_x _ _ _ _)) ?_; rintro _ _ ⟨rfl, rfl⟩
       refine TL.gT rfl rfl (TL.opP rfl (op_eql rfl rfl) (TL.opP rfl (op_pickT rfl rfl) (TL.opP rfl (op_assign rfl) (TL.nil (TQ.then (TC.ret ?_))))))
       refine ret1 rfl rfl (fun w' hp => ?_)
       exact ⟨by rw [decide_eq_true n4], hp.kp⟩
      ·exact absurd rfl c6
     ·exact absurd exr.1 c5
    ·exact absurd rfl c4
   ·exact absurd exu c3
  ·exact absurd k2 c2
 ·exact absurd k1 c1

end Go.SK
