/- Walks: layer 17, a new history of the document's. -/
import Derived.Test.YtlbaebaimhbbfaaDoorE97
import Derived.Test.YtlbaebaimhbbfaaDoorE49
set_option linter.unusedVariables false
set_option linter.unusedSimpArgs false
set_option maxRecDepth 100000
namespace Go.SK
open Go Go.RowKit Go.Proofs
variable {S : Nat → Prop} {w0 : World} {F L : List Res}
abbrev BadN (n : Int) : Prop := n < 0 ∨ 1048576 < n
theorem knew_x (n : Int) :
    CallX Tryd.prog 18 [.int .i64 n] S w0 (L) (fun u L' => ∃ (g : Nat) (p : Value), u = .tuple #[p, .int .i64 (if BadN n then 1 else 0)] ∧ (¬ BadN n → p = .pointer (some ⟨g, 0, none⟩)) ∧ L' = (if BadN n then col 3 [] else .blk g (.cells [.slice none 0 0, .slice none 0 0, .int .i64 (n)].toArray 31 (0, 0))) :: L) := by
 intro w hp
 refine calls_start Tryd.func18 rfl rfl rfl (hp) ?_
 refine TC.seq (TC.region (TL.opP rfl (op_assign rfl) (TL.opP rfl (op_assign rfl) (TL.nil (TQ.then (TC.seq (TC.seq (TC.region (TL.opP rfl (op_move rfl) (TL.opP rfl (op_lss rfl rfl) (TL.opP rfl (op_move rfl) ?_)))))))))))
 refine TL.sp (fun c1 => ?_) (fun c1 => ?_)
 ·refine TL.gFt rfl rfl rfl (TL.gFt rfl rfl rfl (TL.opP rfl (op_pickT rfl rfl) (TL.nil (TQ.then (TC.condT rfl (TC.seq (TC.region (TL.opP rfl (op_assign rfl) (TL.opP rfl (op_assign rfl) (TL.nil (TQ.then (TC.ret (TQ.then_ret ?_)))))))))))))
  refine ret2 rfl rfl rfl (fun w' hp => ?_)
  first
    | exact ⟨_, _, rfl, ⟨0, _, by rw [if_pos (show BadN n from .inl c1)], fun h => absurd (.inl c1) h, by rw [if_pos (show BadN n from .inl c1)]⟩, mk_col0 (hp)⟩
    | exact ⟨_, _, rfl, ⟨0, _, by rw [if_pos (show BadN n from .inr c2)], fun h => absurd (.inr c2) h, by rw [if_pos (show BadN n from .inr c2)]⟩, mk_col0 (hp)⟩
    | (have hb : ¬ BadN n := by unfold BadN; omega
       exact ⟨_, _, rfl, ⟨_, _, by rw [if_neg hb], fun _ => rfl, by rw [if_neg hb]⟩, (hp)⟩)
 ·refine TL.gT rfl rfl (TL.opP rfl (op_move rfl) (TL.gT rfl rfl (TL.opP rfl (op_gtr rfl rfl) (TL.opP rfl (op_pickF rfl rfl) (TL.nil (TQ.then ?_))))))
  refine TC.sp rfl (fun c2 => ?_) (fun c2 => ?_)
  ·refine TC.seq (TC.region (TL.opP rfl (op_assign rfl) (TL.opP rfl (op_assign rfl) (TL.nil (TQ.then (TC.ret (TQ.then_ret ?_)))))))
   refine ret2 rfl rfl rfl (fun w' hp => ?_)
   first
     | exact ⟨_, _, rfl, ⟨0, _, by rw [if_pos (show BadN n from .inl c1)], fun h => absurd (.inl c1) h, by rw [if_pos (show BadN n from .inl c1)]⟩, mk_col0 (hp)⟩
     | exact ⟨_, _, rfl, ⟨0, _, by rw [if_pos (show BadN n from .inr c2)], fun h => absurd (.inr c2) h, by rw [if_pos (show BadN n from .inr c2)]⟩, mk_col0 (hp)⟩
     | (have hb : ¬ BadN n := by unfold BadN; omega
        exact ⟨_, _, rfl, ⟨_, _, by rw [if_neg hb], fun _ => rfl, by rw [if_neg hb]⟩, (hp)⟩)
  ·refine TC.skip (TQ.then (TC.seq (TC.region (TL.opP rfl (op_move rfl) (TL.opP rfl (op_build (ps := #[(2, _)]) rfl (bl_sealskinref17_History_2 _)) ?_)))))
   refine TL.opX rfl (OpX.box (cs := [.slice none 0 0, .slice none 0 0, .int .i64 n]) rfl rfl) ?_; rintro _ _ ⟨g12, rfl, rfl⟩
   refine TL.opP rfl (op_assign rfl) (TL.opP rfl (op_assign rfl) (TL.nil (TQ.then (TC.ret ?_))))
   refine ret2 rfl rfl rfl (fun w' hp => ?_)
   first
     | exact ⟨_, _, rfl, ⟨0, _, by rw [if_pos (show BadN n from .inl c1)], fun h => absurd (.inl c1) h, by rw [if_pos (show BadN n from .inl c1)]⟩, mk_col0 (hp)⟩
     | exact ⟨_, _, rfl, ⟨0, _, by rw [if_pos (show BadN n from .inr c2)], fun h => absurd (.inr c2) h, by rw [if_pos (show BadN n from .inr c2)]⟩, mk_col0 (hp)⟩
     | (have hb : ¬ BadN n := by unfold BadN; omega
        exact ⟨_, _, rfl, ⟨_, _, by rw [if_neg hb], fun _ => rfl, by rw [if_neg hb]⟩, (hp)⟩)

theorem HN.kb {h : HS} {e : List Part} (g : HN h) (hf : h.fit e) : KB h.back e ∧ KB h.again e := by
  obtain ⟨oe, h1, h2, h3⟩ := fit_ok hf
  have hb := g.bl; have ha := g.al; have hn := g.nle
  exact ⟨kb_ok h.back e h.n g.b oe h1 (by omega) (by omega), kb_ok h.again e h.n g.a oe h1 (by omega) (by omega)⟩
/-- What the call of others' edit asks, on both sides. -/
theorem HN.asks {h : HS} {e : List Part} {pb pa qb qa : List PE} (g : HN h) (h1 : hsOf pb pa h.n = h) (h2 : hrOf qb qa h.n = h) (c : ¬ fitE e h.n ≠ 0) : BesB (sn pb) e ∧ BesB (sn pa) e ∧ KB (rn qb) e ∧ KB (rn qa) e := by
  have hf : h.fit e := fit_hs.2 c
  obtain ⟨a1, a2⟩ := g.besB hf
  obtain ⟨b1, b2⟩ := g.kb hf
  have e1 : sn pb = h.back := by rw [← h1]; rfl
  have e2 : sn pa = h.again := by rw [← h1]; rfl
  have e3 : rn qb = h.back := by rw [← h2]; rfl
  have e4 : rn qa = h.again := by rw [← h2]; rfl
  rw [e1, e2, e3, e4]
  exact ⟨a1, a2, b1, b2⟩
theorem hr_lens {h : HS} {pb pa qb qa : List PE} (h1 : hsOf pb pa h.n = h) (h2 : hrOf qb qa h.n = h) : pb.length = qb.length ∧ pa.length = qa.length := by
  have e1 : sn pb = rn qb := by have a := congrArg HS.back h1; have b := congrArg HS.back h2; exact a.trans b.symm
  have e2 : sn pa = rn qa := by have a := congrArg HS.again h1; have b := congrArg HS.again h2; exact a.trans b.symm
  have l1 := congrArg List.length e1; have l2 := congrArg List.length e2
  rw [sn_len] at l1 l2
  unfold rn at l1 l2
  rw [List.length_map] at l1 l2
  exact ⟨l1, l2⟩
theorem app_next {e : List Part} {s : ByteArray} (z : applyE e s = 0) (h : (rcount (applyF e s) : Int) ≤ 600) : (dec (applyF e s)).length ≤ 600 ∧ (applyF e s).size ≤ 2400 := by
  obtain ⟨hv, oe, hn⟩ := applyE_z z
  obtain ⟨a1, a2, a3, a4, a5⟩ := apply_law hv oe hn
  rw [rcount_dec] at h
  have h1 := (enc_size (dec (applyF e s))).2
  rw [enc_dec a3] at h1
  omega
end Go.SK
