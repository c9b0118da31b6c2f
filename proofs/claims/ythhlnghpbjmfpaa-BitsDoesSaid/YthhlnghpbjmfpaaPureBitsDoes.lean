/- BitsDoes: for every op, every two numbers and every two bounds, the program's Do answers as the reference's. No condition. -/
import Derived.Test.YthhlnghpbjmfpaaPTryDoEq
set_option linter.unusedSimpArgs false
set_option linter.unusedVariables false
namespace Go.Proofs.Ythhlnghpbjmfpaa.Pure
open Go.RowKit Go.Proofs.Ythhlnghpbjmfpaa.PTry Go.Proofs.YthhlnghpbjmfpaaW.PrintWords Go.Proofs.YthhlnghpbjmfpaaW.PrintLast Go.Proofs.Ythhlnghpbjmfpaa.BitsMath Go.Proofs.Ythhlnghpbjmfpaa.PTryFns

theorem nf : ¬ (false = true) := by decide
theorem nt : ¬ ((!true) = true) := by decide
def Same (op a0 : Int) (va : Nat) (b0 : Int) (vb : Nat) (n m : Int) : Prop :=
  ∃ r, bits_Do.f op a0 (hiOf va) (loOf va) b0 (hiOf vb) (loOf vb) n m = some r ∧ pointsmanref01_Do.f 1000 op a0 (hiOf va) (loOf va) b0 (hiOf vb) (loOf vb) n m = some r
theorem same_al (op : Int) (hA : isAl op = true) (a0 b0 n m : Int) {va vb : Nat} (ha : va < 2 ^ 128) (hb : vb < 2 ^ 128) : Same op a0 va b0 vb n m := by
  obtain ⟨ca, hca, rca, xa⟩ := check_any a0 ha
  obtain ⟨cb, hcb, rcb, xb⟩ := check_any b0 hb
  have h14 : ¬ op = 14 := by rintro rfl; exact absurd hA (by decide)
  have h15 : ¬ op = 15 := by rintro rfl; exact absurd hA (by decide)
  have h16 : ¬ op = 16 := by rintro rfl; exact absurd hA (by decide)
  unfold Same bits_Do.f pointsmanref01_Do.f
  rw [if_pos hA, if_neg h14, if_neg h15, if_neg h16]
  unfold pointsmanref01_Do_h.f
  rw [two_al op hA, Option.bind_some, if_pos rfl, hcb, rca, Option.bind_some, Option.bind_some]
  cases ca
  · rw [if_neg nf]
    refine ⟨_, ?_, rfl⟩
    cases cb
    · rw [if_neg nf]
    · rw [if_pos rfl, hca, Option.bind_some, if_neg nf]
  · rw [if_pos rfl, rcb, Option.bind_some]
    cases cb
    · exact ⟨_, by rw [if_neg nf], by rw [if_neg nf]⟩
    · rw [if_pos rfl, if_pos rfl, hca, Option.bind_some, if_pos rfl, if_neg h15, if_neg h16, if_pos rfl]
      by_cases hw : a0 = b0
      · obtain ⟨w, rfl, w0, w1, hva⟩ := xa rfl
        obtain ⟨w', rfl, _, _, hvb⟩ := xb rfl
        obtain rfl : w = w' := by omega
        obtain ⟨u, X, lr, h1, h2, h3, h4, h5⟩ := al_val op hA w0 w1 hva hvb
        rw [if_pos rfl, if_pos rfl, h1, Option.bind_some, (bl_is w1 hva).2.1, Option.bind_some, (bl_is w1 hvb).2.1, Option.bind_some, h2, Option.bind_some, number_of lr (by omega), h3, h5]
        exact ⟨_, rfl, rfl⟩
      · rw [if_neg hw, if_neg hw]
        exact ⟨_, rfl, rfl⟩
theorem same_ot (op : Int) (hA : isAl op = false) (hO : isOt op = true) (a0 b0 n m : Int) {va vb : Nat} (ha : va < 2 ^ 128) (hb : vb < 2 ^ 128) : Same op a0 va b0 vb n m := by
  obtain ⟨ca, hca, rca, xa⟩ := check_any a0 ha
  obtain ⟨cb, hcb, rcb, xb⟩ := check_any b0 hb
  have h15 : ¬ op = 15 := by rintro rfl; exact absurd hO (by decide)
  have h16 : ¬ op = 16 := by rintro rfl; exact absurd hO (by decide)
  unfold Same bits_Do.f pointsmanref01_Do.f
  rw [if_neg (by simp [hA]), if_pos hO, hcb, Option.bind_some]
  by_cases h14 : op = 14
  · subst h14
    rw [if_pos rfl]
    unfold pointsmanref01_Do_o14.f
    rw [two_ot 14 rfl, Option.bind_some, if_pos rfl, rca, Option.bind_some]
    cases ca
    · rw [if_neg nf]
      refine ⟨_, ?_, by rw [pointsmanref01_Do_o14.j0, if_pos rfl]⟩
      cases cb
      · rw [if_neg nf]
      · rw [if_pos rfl, hca, Option.bind_some, if_neg nf]
    · rw [if_pos rfl, rcb, Option.bind_some]
      cases cb
      · exact ⟨_, by rw [if_neg nf], by rw [pointsmanref01_Do_o14.j0]; rfl⟩
      · rw [if_pos rfl, hca, Option.bind_some, if_pos rfl]
        obtain ⟨w, rfl, w0, w1, hva⟩ := xa rfl
        obtain ⟨wb, rfl, wb0, wb1, hvb⟩ := xb rfl
        rw [pointsmanref01_Do_o14.j0, if_neg nt, if_neg nf, wsum w1 wb1]
        by_cases hs : w + wb ≤ 128
        · obtain ⟨h1, h2⟩ := cat_is hs hva hvb w0
          obtain ⟨_, ba, la, na⟩ := bl_is w1 hva
          obtain ⟨_, bb, lb, nb⟩ := bl_is wb1 hvb
          rw [if_neg (by omega), h1, Option.bind_some, if_neg (by simp; omega), pointsmanref01_Do_o14.j1, if_neg nf, bits_is' w1 hva 998 (by decide), Option.bind_some, bits_is' wb1 hvb 998 (by decide), Option.bind_some, if_pos (by rw [la, lb]; omega), number_is _ (by simp [la, lb]; omega) 998 (by decide), Option.bind_some, natL_append, na, nb, lb, List.length_append, la, lb, Nat.add_comm wb w]
          exact ⟨_, rfl, rfl⟩
        · rw [if_pos (by omega), pointsmanref01_Do_o14.j1, if_pos rfl]
          refine ⟨_, ?_, rfl⟩
          unfold bits_other.f
          rw [if_neg (by decide), if_neg (by decide), if_pos rfl]
          unfold bits_others_3.f
          rw [wsum w1 wb1, if_pos (by omega)]
          rfl
  · rw [if_neg h14, if_neg h15, if_neg h16]
    unfold pointsmanref01_Do_h.f
    rw [two_ot op hO, Option.bind_some, if_pos rfl, rca, Option.bind_some]
    cases ca
    · rw [if_neg nf]
      refine ⟨_, ?_, rfl⟩
      cases cb
      · rw [if_neg nf]
      · rw [if_pos rfl, hca, Option.bind_some, if_neg nf]
    · rw [if_pos rfl, rcb, Option.bind_some]
      cases cb
      · exact ⟨_, by rw [if_neg nf], by rw [if_neg nf]⟩
      · rw [if_pos rfl, if_pos rfl, hca, Option.bind_some, if_pos rfl, if_neg h15, if_neg h16, if_neg nf]
        obtain ⟨w, rfl, w0, w1, hva⟩ := xa rfl
        obtain ⟨wb, rfl, wb0, wb1, hvb⟩ := xb rfl
        by_cases hB : op = 21 ∨ op = 22
        · rw [if_pos hB]
          by_cases hw : (w : Int) = 1 ∧ (wb : Int) = 1
          · obtain ⟨rfl, rfl⟩ : w = 1 ∧ wb = 1 := by omega
            obtain ⟨X, lr, h1, h2, h3, h4⟩ := ot_bits op hB hva hvb
            rw [if_pos hw.1, if_pos hw.2, (bl_is w1 hva).2.1, Option.bind_some, (bl_is w1 hvb).2.1, Option.bind_some, h2, Option.bind_some, number_of lr (by omega), h3, h4, show ((1 : Nat) : Int) = 1 from rfl, h1, Option.bind_some]
            exact ⟨_, rfl, rfl⟩
          · rw [ot_bits_not op hB _ _ _ _ _ _ hw, Option.bind_some]
            refine ⟨_, rfl, ?_⟩
            by_cases c : (w : Int) = 1
            · rw [if_pos c, if_neg (fun e => hw ⟨c, e⟩)]
            · rw [if_neg c]
        · rw [if_neg hB]
          have hM : op = 12 ∨ op = 13 := by simp [isOt] at hO; omega
          obtain ⟨X, lr, h1, h2, h3, h4⟩ := ot_move op hM w0 w1 wb0 wb1 hva hvb
          rw [h1, Option.bind_some, if_neg (by simp; omega), (bl_is w1 hva).2.1, Option.bind_some, (bl_is wb1 hvb).2.1, Option.bind_some, h2, Option.bind_some, number_of lr (by omega), h3, h4]
          exact ⟨_, rfl, rfl⟩
theorem same_no (op : Int) (hA : isAl op = false) (hO : isOt op = false) (a0 b0 n m : Int) (hn : (Lit.int .i64 n).wf = true) {va vb : Nat} (ha : va < 2 ^ 128) (hb : vb < 2 ^ 128) : Same op a0 va b0 vb n m := by
  obtain ⟨ca, hca, rca, xa⟩ := check_any a0 ha
  obtain ⟨lb, hlb⟩ := bits_any b0 hb
  have h14 : ¬ op = 14 := by rintro rfl; exact absurd hO (by decide)
  unfold Same bits_Do.f pointsmanref01_Do.f
  rw [if_neg (by simp [hA]), if_neg (by simp [hO]), hca, Option.bind_some, if_neg h14]
  by_cases h15 : op = 15
  · subst h15
    rw [if_neg (show ¬ (15 : Int) = 11 by decide), if_pos rfl, if_pos rfl]
    unfold pointsmanref01_Do_o15.f
    rw [two_no 15 rfl rfl, Option.bind_some, if_neg nf, rca, Option.bind_some]
    cases ca
    · rw [if_neg nf, if_neg nf, pointsmanref01_Do_o15.j0, if_pos rfl]
      exact ⟨_, rfl, rfl⟩
    · obtain ⟨w, rfl, w0, w1, hva⟩ := xa rfl
      rw [if_pos rfl, if_pos rfl, pointsmanref01_Do_o15.j0, if_neg nf]
      by_cases hc : 0 ≤ m ∧ m ≤ n ∧ n < w
      · obtain ⟨i, rfl⟩ := Int.eq_ofNat_of_zero_le (show 0 ≤ m by omega)
        obtain ⟨j, rfl⟩ := Int.eq_ofNat_of_zero_le (show 0 ≤ n by omega)
        obtain ⟨_, ba, la, na⟩ := bl_is w1 hva
        have e1 : wrap64 ((j : Int) + 1) = ((j + 1 : Nat) : Int) := by unfold wrap64; omega
        have e2 : wrap64 (wrap64 ((j : Int) - i) + 1) = ((j - i + 1 : Nat) : Int) := by unfold wrap64; omega
        have e3 : IntKind.u64.wrap (i : Int) = i := by rw [wrap_u64]; omega
        obtain ⟨hl, hv⟩ := slice_val (bl w va) j i (by omega) (by omega)
        have hd := down_is w w1 ha i (by omega)
        have hlt : va / 2 ^ i < 2 ^ w := Nat.lt_of_le_of_lt (Nat.div_le_self _ _) hva
        rw [Nat.mod_eq_of_lt hlt] at hd
        rw [if_pos hc, e3, hd, Option.bind_some, e2]
        simp only
        rw [cut_is (j - i + 1) (by omega) (Nat.lt_of_lt_of_le hlt (Nat.pow_le_pow_right (by decide) w1)), Option.bind_some]
        rw [if_neg (by omega), if_neg (by omega), if_neg (by omega), pointsmanref01_Do_o15.j1, if_neg nf, if_neg nf, pointsmanref01_Do_o15.j2, if_neg nf, bits_is' w1 hva 997 (by decide), Option.bind_some]
        obtain ⟨lb', hlb'⟩ := bits_any' b0 hb 997 (by decide)
        rw [hlb', Option.bind_some, e1, if_pos (by omega), if_pos (by omega), if_pos (by rw [la]; omega), Int.toNat_natCast, Int.toNat_natCast, number_is _ (by rw [hl]; omega) 997 (by decide), Option.bind_some, hl, hv, na]
        exact ⟨_, rfl, rfl⟩
      · rw [if_neg hc]
        refine ⟨_, rfl, ?_⟩
        have hj : ∀ x13 x1 x2 x3 x4 x5 x6, pointsmanref01_Do_o15.j1 999 n m x13 true x1 x2 x3 x4 x5 x6 = some (0, 0, 0, 1) := fun _ _ _ _ _ _ _ => by rw [pointsmanref01_Do_o15.j1, if_pos rfl]
        by_cases c1 : m < 0
        · rw [if_pos c1]; exact hj _ _ _ _ _ _ _
        rw [if_neg c1]
        by_cases c2 : m > n
        · rw [if_pos c2]; exact hj _ _ _ _ _ _ _
        rw [if_neg c2, if_pos (by omega)]
        exact hj _ _ _ _ _ _ _
  · rw [if_neg h15]
    by_cases h16 : op = 16
    · subst h16
      rw [if_neg (show ¬ (16 : Int) = 11 by decide), if_neg (show ¬ (16 : Int) = 15 by decide), if_pos rfl, if_pos rfl]
      unfold pointsmanref01_Do_o16.f
      rw [two_no 16 rfl rfl, Option.bind_some, if_neg nf, rca, Option.bind_some]
      cases ca
      · rw [if_neg nf, if_neg nf, pointsmanref01_Do_o16.j0, if_pos rfl]
        exact ⟨_, rfl, rfl⟩
      · obtain ⟨w, rfl, w0, w1, hva⟩ := xa rfl
        rw [if_pos rfl, if_pos rfl, pointsmanref01_Do_o16.j0, if_neg nf]
        by_cases hc : 1 ≤ n ∧ n ≤ 128
        · obtain ⟨j, rfl⟩ := Int.eq_ofNat_of_zero_le (show 0 ≤ n by omega)
          obtain ⟨_, ba, la, na⟩ := bl_is w1 hva
          obtain ⟨lb', hlb'⟩ := bits_any' b0 hb 997 (by decide)
          rw [of_is j (by omega) (by omega) ha, if_neg (by omega), show decide ((j : Int) > 128) = false from by simp; omega, pointsmanref01_Do_o16.j1, if_neg nf, if_neg nf, pointsmanref01_Do_o16.j2, if_neg nf, bits_is' w1 hva 997 (by decide), Option.bind_some, hlb', Option.bind_some, cast_l j (by omega) _ 997 _ rfl (by omega) (by omega), na]
          exact ⟨_, rfl, rfl⟩
        · rw [of_not _ _ _ hc]
          refine ⟨_, rfl, ?_⟩
          by_cases c1 : n < 1
          · rw [if_pos c1, pointsmanref01_Do_o16.j1, if_pos rfl]
          · rw [if_neg c1, show decide (n > 128) = true from by simp; omega, pointsmanref01_Do_o16.j1, if_pos rfl]
    · rw [if_neg h16]
      unfold pointsmanref01_Do_h.f
      rw [two_no op hA hO, Option.bind_some, if_neg nf]
      rw [if_neg h15, if_neg h16]
      by_cases h11 : op = 11
      · rw [if_pos h11, if_pos h11, rca, Option.bind_some]
        cases ca
        · rw [if_neg nf, if_neg nf]
          exact ⟨_, rfl, rfl⟩
        · obtain ⟨w, rfl, w0, w1, hva⟩ := xa rfl
          obtain ⟨_, ba, la, na⟩ := bl_is w1 hva
          obtain ⟨q, g1, g2, g3⟩ := rnot_is (bl w va) (by omega) 1000 (by decide)
          rw [if_pos rfl, if_pos rfl, not_is w w1 ha, Option.bind_some, ba, Option.bind_some, hlb, Option.bind_some, g1, Option.bind_some, number_of q (by omega), g2, g3, la, na, not_val w1 hva]
          exact ⟨_, rfl, rfl⟩
      · rw [if_neg h11, if_neg h11, if_neg h15, if_neg h16]
        refine ⟨_, ?_, rfl⟩
        cases ca <;> rfl
theorem BitsDoes (op a0 a1 a2 b0 b1 b2 n m : Int) (_ : (Lit.int .u8 op).wf = true) (_ : (Lit.int .i64 a0).wf = true) (h1 : (Lit.int .u64 a1).wf = true) (h2 : (Lit.int .u64 a2).wf = true) (_ : (Lit.int .i64 b0).wf = true) (h3 : (Lit.int .u64 b1).wf = true) (h4 : (Lit.int .u64 b2).wf = true) (hn : (Lit.int .i64 n).wf = true) (_ : (Lit.int .i64 m).wf = true) :
    ∃ k, pointsmanlaw01_BitsDoes.f k op a0 a1 a2 b0 b1 b2 n m = some true := by
  obtain ⟨va, ha, rfl, rfl⟩ := two_words h1 h2
  obtain ⟨vb, hb, rfl, rfl⟩ := two_words h3 h4
  have hs : Same op a0 va b0 vb n m := by
    cases hA : isAl op
    · cases hO : isOt op
      · exact same_no op hA hO a0 b0 n m hn ha hb
      · exact same_ot op hA hO a0 b0 n m ha hb
    · exact same_al op hA a0 b0 n m ha hb
  obtain ⟨r, e1, e2⟩ := hs
  refine ⟨1000, ?_⟩
  unfold pointsmanlaw01_BitsDoes.f
  rw [e1, Option.bind_some, e2, Option.bind_some, if_pos (by simp)]
  simp
end Go.Proofs.Ythhlnghpbjmfpaa.Pure
