/- Layer 12: what is put for what is found as $0 changes nothing; words for the laws that lean on the program alone. -/
import Derived.Test.YtpomdenbgdgbhaaDoorE75
import Derived.Test.YtpomdenbgdgbhaaDoorNP
set_option linter.unusedVariables false
set_option linter.unusedSimpArgs false
set_option maxRecDepth 100000
namespace Go.SK
open Go Go.RowKit Go.Proofs
variable {S : Nat → Prop} {w0 : World} {F L : List Res}
def sameL (tx : List Int) (l : List (List Int)) : List (Nat × Nat × ByteArray) := l.map fun f => ((f.getD 0 0).toNat, (f.getD 1 0).toNat, enc (grpT tx f 0))
theorem same_go {tx : List Int} {G : Nat} (hsc : ∀ x ∈ tx, scalar x) : ∀ (l : List (List Int)) (a m : Nat), Ris tx.length G a l → m + (tx.length - a) ≤ 1048576 →
    mswGo tx [36, 48] l a m = some (swG tx.length (sameL tx l) a) ∧ GOk tx.length (sameL tx l) a ∧ gsum (sameL tx l) ≤ tx.length - a ∧ swGR tx (sameL tx l) a = tx.drop a
  | [], a, m, h, hm => by
    cases h with
    | nil _ ha => exact ⟨rfl, ha, Nat.zero_le _, rfl⟩
  | f :: r, a, m, h, hm => by
    cases h with
    | cons _ i j _ _ h1 h2 h3 h4 h5 h6 h7 h8 =>
      have hg : grpT tx f 0 = (tx.drop i).take (j - i) := by
        unfold grpT
        rw [if_pos ⟨by omega, by show 0 ≤ f.getD 0 0; omega, by show 0 ≤ f.getD 1 0; omega⟩]
        show (tx.drop (f.getD 0 0).toNat).take ((f.getD 1 0).toNat - (f.getD 0 0).toNat) = _
        rw [h5, h6, Int.toNat_natCast, Int.toNat_natCast]
      have hgl : (grpT tx f 0).length = j - i := by rw [hg, List.length_take, List.length_drop]; omega
      have hgs : ∀ x ∈ grpT tx f 0, scalar x := fun x hx => hsc x (grpT_mem hx)
      have hrc : rcount (enc (grpT tx f 0)) = j - i := by rw [rcount_dec, dec_enc hgs, hgl]
      obtain ⟨b1, b2, b3, b4⟩ := same_go hsc r j (m + (j - i)) h8 (by omega)
      have hs : sameL tx (f :: r) = (i, j, enc (grpT tx f 0)) :: sameL tx r := by
        unfold sameL; rw [List.map_cons, h5, h6, Int.toNat_natCast, Int.toNat_natCast]
      rw [hs]
      refine ⟨?_, ⟨h1, h2, h3, valid_enc hgs, b2⟩, by rw [gsum, hrc]; omega, ?_⟩
      · rw [msw_on (by rw [fill_0, hgl]; omega), fill_0, h5, h6, hgl, b1, swG]
        show some _ = some _
        congr 1
        show keepP ((i : Int) - a) :: (⟨2, ((j - i : Nat) : Int), enc (grpT tx f 0)⟩ : Part) :: _ = _
        unfold putP
        rw [hrc]
      · rw [swGR, dec_enc hgs, b4, hg]
        have e1 : tx.drop i = (tx.drop a).drop (i - a) := by rw [List.drop_drop]; congr 1; omega
        have e2 : tx.drop j = (tx.drop i).drop (j - i) := by rw [List.drop_drop]; congr 1; omega
        rw [e2, List.take_append_drop, e1, List.take_append_drop]
theorem same_law {pg : List StP} {G : Nat} (hG : PgG pg G) {s : ByteArray} (hv : valid s = true) (hs : s.size ≤ 4096) :
    mswE pg G s ⟨#[36, 48]⟩ = 0 ∧ small (mswF pg G s ⟨#[36, 48]⟩) ∧ applyF (mswF pg G s ⟨#[36, 48]⟩) s = s := by
  have hdl := dec_len s
  have h0 : txE s = 0 := txE_c hv (by omega)
  have ht : txF s = dec s := txF_is h0
  have hq : dec ⟨#[36, 48]⟩ = [36, 48] := by kernel_rfl
  have hqv : valid ⟨#[36, 48]⟩ = true := by kernel_rfl
  obtain ⟨b1, b2, b3, b4⟩ := same_go (dec_scalar hv) (allF pg G (dec s)) 0 0 (allF_ris hG) (by omega)
  have hfin : mswGo (txF s) (dec ⟨#[36, 48]⟩) (allF pg G (txF s)) 0 0 = some (swG (dec s).length (sameL (dec s) (allF pg G (dec s))) 0) := by rw [ht, hq]; exact b1
  have hE := mswE_e (pg := pg) (G := G) (fun e => e h0) hqv (by rw [hq]; decide) hfin
  rw [mswF_is hE hfin]
  obtain ⟨c1, c2, c3⟩ := swG_law hv b2 (by omega) (by omega)
  refine ⟨hE, small_of c1.fits, ?_⟩
  rw [c3, b4, List.drop_zero, enc_dec hv]
/-- A text that is a pattern, with all that is wanted of it. -/
theorem cmp_good {s : ByteArray} {rs : List Res} {v : Value} {i e : Int} (h : CmpRes s rs v i e) (he : e = 0) : ∃ t j g, cmpF s = .ok t j g ∧ PgG (progF t) g ∧ (progF t).length ≤ 3000 ∧ g ≤ 200 ∧ PgIn rs v (progF t) g := by
  unfold CmpRes at h
  cases hc : cmpF s with
  | err e' j => rw [hc] at h; exact absurd (h.1.symm.trans he) h.2.1
  | ok t j g =>
    rw [hc] at h
    obtain ⟨a, b, c⟩ := cmp_ok hc
    exact ⟨t, j, g, rfl, a, b, c, h.2.2⟩
end Go.SK
