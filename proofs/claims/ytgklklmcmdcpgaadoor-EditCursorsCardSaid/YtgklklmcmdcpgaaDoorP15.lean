/- Plain words: edits that do the same are the same. -/
import Derived.Test.YtgklklmcmdcpgaaDoorP14
set_option linter.unusedVariables false
set_option linter.unusedSimpArgs false
set_option maxRecDepth 100000
namespace Go.SK
open Go
def genL (n : Nat) : List Gen := (List.range n).map Sum.inl
theorem genL_len (n : Nat) : (genL n).length = n := by simp [genL]
theorem genL_inl (n : Nat) : inlS (genL n) := fun x hx => by
  obtain ⟨i, _, rfl⟩ := List.mem_map.1 hx
  exact ⟨i, rfl⟩
theorem genL_nodup (n : Nat) : (genL n).Nodup := by
  unfold genL
  rw [List.nodup_iff_pairwise_ne, List.pairwise_map]
  exact (List.nodup_iff_pairwise_ne.1 List.nodup_range).imp fun h e => h (by injection e)
theorem form_unique {a b : List Part} (oa : Ok a) (ob : Ok b) (e : fromS a = fromS b)
    (h : ∀ l : List Gen, (l.length : Int) = fromS a → (runS Sum.inr a l).1 = (runS Sum.inr b l).1) : a = b := by
  have pa := fromS_posU oa.1
  have hl : ((genL (fromS a).toNat).length : Int) = fromS a := by rw [genL_len]; omega
  exact same_form a b (genL (fromS a).toNat) oa.1 ob.1 oa.2.1 ob.2.1 hl (by omega) (genL_inl _) (genL_nodup _) (h _ hl)
/-- Composition of three. -/
theorem anyway_law {a b c : List Part} (oa : Ok a) (ob : Ok b) (oc : Ok c) (e1 : toS a = fromS b) (e2 : toS b = fromS c) :
    compE (compF a b) c = 0 ∧ compE a (compF b c) = 0 ∧ compF (compF a b) c = compF a (compF b c) := by
  obtain ⟨_, o1, f1, t1, r1⟩ := comp_law oa ob e1
  obtain ⟨_, o2, f2, t2, r2⟩ := comp_law ob oc e2
  obtain ⟨g1, o3, f3, t3, r3⟩ := comp_law o1 oc (by omega)
  obtain ⟨g2, o4, f4, t4, r4⟩ := comp_law oa o2 (by omega)
  have ha := fromS_posU oa.1
  refine ⟨g1, g2, form_unique o3 o4 (by omega) fun l hl => ?_⟩
  have hl1 : (l.length : Int) = fromS a := by omega
  rw [r3 _ _ (by omega), r1 _ _ hl1, r4 _ _ hl1, r2 _ _ (by rw [(runS_len Sum.inr a l oa.1 (by omega)).1]; exact e1)]
/-- The two ways around. -/
theorem square_law {a b : List Part} (oa : Ok a) (ob : Ok b) (e : fromS a = fromS b) (h : toS (trR1 a b).reverse ≤ 1099511627776) :
    compE a (trF2 a b) = 0 ∧ compE b (trF1 a b) = 0 ∧ compF a (trF2 a b) = compF b (trF1 a b) ∧ Ok (compF a (trF2 a b)) ∧ fromS (compF a (trF2 a b)) = fromS a := by
  obtain ⟨m1, m2, f1, f2, t, _, _, r⟩ := tr_law oa ob e
  obtain ⟨c1, c2, c3, o1, o2⟩ := tr_law_ok oa ob e h
  rw [← c2] at f1 r t; rw [← c3] at f2 r t
  obtain ⟨g1, p1, q1, s1, u1⟩ := comp_law oa o2 f2.symm
  obtain ⟨g2, p2, q2, s2, u2⟩ := comp_law ob o1 f1.symm
  refine ⟨g1, g2, form_unique p1 p2 (by omega) fun l hl => ?_, p1, q1⟩
  rw [u1 _ _ (by omega), u2 _ _ (by omega)]
  exact (r _ _ (by omega)).symm
end Go.SK
