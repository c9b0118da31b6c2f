/- What the reference's loops over lists of bits come to, on natural numbers. No memory in sight. -/
import Derived.Test.YthhlnghpbjmfpaaPTryDoFns
set_option linter.unusedSimpArgs false
set_option linter.unusedVariables false
namespace Go.Proofs.Ythhlnghpbjmfpaa.PTryFns
open Go.RowKit Go.Proofs.Ythhlnghpbjmfpaa.PTry Go.Proofs.YthhlnghpbjmfpaaW.PrintWords Go.Proofs.YthhlnghpbjmfpaaW.PrintLast Go.Proofs.YthhlnghpbjmfpaaW.PrintMore Go.Proofs.Ythhlnghpbjmfpaa.BitsMath

theorem rd_at (l : List Bool) (i : Nat) : rdOf false l (i : Int) = l.getD i false := rfl
theorem getD_none (l : List Bool) (i : Nat) (h : l.length ≤ i) : l.getD i false = false := by simp [List.getD_eq_getElem?_getD, List.getElem?_eq_none h]
theorem natL_snoc (l : List Bool) (b : Bool) : natL (l ++ [b]) = natL l + 2 ^ l.length * b.toNat := by rw [natL_append]; simp [natL]
theorem big {n : Nat} (h : n ≤ 128) : n < 140737488355328 := by omega
/-! ### add -/
theorem add_round (la lb out : List Bool) (c : Bool) (i k : Nat) (ha : i < la.length) (hb : i < lb.length) (ho : out.length < 140737488355328) (hi : i < 9223372036854775807) :
    pointsmanref01_add.l0 (k + 2) la lb c out i = pointsmanref01_add.l0 k la lb ((la.getD i false && lb.getD i false) || (la.getD i false && c) || (lb.getD i false && c)) (out ++ [((la.getD i false != lb.getD i false) != c)]) ((i + 1 : Nat) : Int) := by
  rw [pointsmanref01_add.l0, if_pos (by omega), if_pos (by omega), rd_at]
  have hw := wrap_succ hi
  have w1 : wrap64 (0 + 1) = 1 := by unfold wrap64; decide
  have w2 : wrap64 (1 + 1) = 2 := by unfold wrap64; decide
  have w3 : wrap64 (0 + 1 + 1) = 2 := by unfold wrap64; decide
  have w4 : wrap64 (2 + 1) = 3 := by unfold wrap64; decide
  have w5 : Int.tmod 2 2 = 0 := by decide
  have w6 : Int.tmod 3 2 = 1 := by decide
  have w7 : Int.tmod 1 2 = 1 := by decide
  have w8 : wrap64 1 = 1 := by unfold wrap64; decide
  have w9 : wrap64 2 = 2 := by unfold wrap64; decide
  have w10 : wrap64 3 = 3 := by unfold wrap64; decide
  cases la.getD i false
  · rw [if_neg (by decide), pointsmanref01_add.j1, if_pos (by omega), if_pos (by omega), rd_at, hw]
    cases lb.getD i false
    · rw [if_neg (by decide)]
      cases c
      · rw [if_neg (by decide), if_pos ho]; simp [w1, w2, w3, w4, w5, w6, w7, w8, w9, w10]
      · rw [if_pos rfl, if_pos ho]; simp [w1, w2, w3, w4, w5, w6, w7, w8, w9, w10]
    · rw [if_pos rfl]
      cases c
      · rw [if_neg (by decide), if_pos ho]; simp [w1, w2, w3, w4, w5, w6, w7, w8, w9, w10]
      · rw [if_pos rfl, if_pos ho]; simp [w1, w2, w3, w4, w5, w6, w7, w8, w9, w10]
  · rw [if_pos rfl, pointsmanref01_add.j1, if_pos (by omega), if_pos (by omega), rd_at, hw]
    cases lb.getD i false
    · rw [if_neg (by decide)]
      cases c
      · rw [if_neg (by decide), if_pos ho]; simp [w1, w2, w3, w4, w5, w6, w7, w8, w9, w10]
      · rw [if_pos rfl, if_pos ho]; simp [w1, w2, w3, w4, w5, w6, w7, w8, w9, w10]
    · rw [if_pos rfl]
      cases c
      · rw [if_neg (by decide), if_pos ho]; simp [w1, w2, w3, w4, w5, w6, w7, w8, w9, w10]
      · rw [if_pos rfl, if_pos ho]; simp [w1, w2, w3, w4, w5, w6, w7, w8, w9, w10]
theorem add_l (la lb : List Bool) (hl : la.length = lb.length) (hn : la.length ≤ 128) (T d : Nat) : ∀ (k i : Nat) (out : List Bool) (c : Bool), i ≤ la.length → la.length - i = d → 2 * d < k → out.length = i →
    natL out + 2 ^ i * c.toNat = natL (la.take i) + natL (lb.take i) + T → ∃ r, pointsmanref01_add.l0 k la lb c out i = some r ∧ r.length = la.length ∧ ∃ c' : Nat, natL r + 2 ^ la.length * c' = natL la + natL lb + T := by
  induction d with
  | zero =>
    intro k i out c h0 hd hk ho hv
    obtain ⟨k, rfl⟩ : ∃ m, k = m + 1 := ⟨k - 1, by omega⟩
    have hi : i = la.length := by omega
    refine ⟨out, by rw [pointsmanref01_add.l0, if_neg (by omega)], by omega, c.toNat, ?_⟩
    rw [List.take_of_length_le (by omega), List.take_of_length_le (by omega)] at hv
    rw [← hi]; exact hv
  | succ d ih =>
    intro k i out c h0 hd hk ho hv
    obtain ⟨k, rfl⟩ : ∃ m, k = m + 2 := ⟨k - 2, by omega⟩
    rw [add_round la lb out c i k (by omega) (by omega) (by omega) (by omega)]
    refine ih k (i + 1) _ _ (by omega) (by omega) (by omega) (by simp [ho]) ?_
    rw [natL_snoc, ho, natL_take_succ (by omega : i < la.length), natL_take_succ (by omega : i < lb.length), Nat.pow_succ]
    generalize 2 ^ i = p at *
    cases la.getD i false <;> cases lb.getD i false <;> cases c <;> simp at hv ⊢ <;> omega
theorem radd_is (la lb : List Bool) (hl : la.length = lb.length) (hn : la.length ≤ 128) (c : Bool) (k : Nat) (hk : 300 < k) :
    ∃ r, pointsmanref01_add.f k la lb c = some r ∧ r.length = la.length ∧ natL r = (natL la + natL lb + c.toNat) % 2 ^ la.length := by
  obtain ⟨r, h1, h2, c', h3⟩ := add_l la lb hl hn c.toNat la.length k 0 [] c (by omega) (by omega) (by omega) rfl (by simp [natL])
  refine ⟨r, h1, h2, ?_⟩
  have hlt := natL_lt r
  rw [h2] at hlt
  rw [← h3, Nat.add_mul_mod_self_left, Nat.mod_eq_of_lt hlt]

/-! ### a loop that lays one bit a round -/
theorem rnot_l (la : List Bool) (hn : la.length ≤ 128) (d : Nat) : ∀ (k i : Nat), i ≤ la.length → la.length - i = d → d < k →
    pointsmanref01_not.l0 k la ((la.take i).map (!·)) i = some (la.map (!·)) := by
  induction d with
  | zero =>
    intro k i h0 hd hk
    obtain ⟨k, rfl⟩ : ∃ m, k = m + 1 := ⟨k - 1, by omega⟩
    rw [pointsmanref01_not.l0, if_neg (by omega), List.take_of_length_le (by omega)]
  | succ d ih =>
    intro k i h0 hd hk
    obtain ⟨k, rfl⟩ : ∃ m, k = m + 1 := ⟨k - 1, by omega⟩
    have hlt : i < la.length := by omega
    rw [pointsmanref01_not.l0, if_pos (by omega), if_pos (by omega), if_pos (by simp; omega), wrap_succ (by omega), rd_at]
    have e : (la.take i).map (!·) ++ [!(la.getD i false)] = (la.take (i + 1)).map (!·) := by
      rw [List.take_succ_eq_append_getElem hlt, List.map_append]
      congr 1
      simp [List.getD_eq_getElem?_getD, hlt]
    rw [e]
    exact ih k (i + 1) (by omega) (by omega) (by omega)
theorem natL_not (l : List Bool) : natL (l.map (!·)) + natL l + 1 = 2 ^ l.length := by
  induction l with
  | nil => simp [natL]
  | cons b t ih => simp only [List.map_cons, natL, List.length_cons, Nat.pow_succ]; cases b <;> simp <;> omega
theorem rnot_is (la : List Bool) (hn : la.length ≤ 128) (k : Nat) (hk : 200 < k) : ∃ r, pointsmanref01_not.f k la = some r ∧ r.length = la.length ∧ natL r = 2 ^ la.length - 1 - natL la := by
  refine ⟨la.map (!·), rnot_l la hn la.length k 0 (by omega) (by omega) (by omega), by simp, ?_⟩
  have := natL_not la
  omega
/-- up: the bits moved; n may be below 0. -/
theorem rup_l (la : List Bool) (hn : la.length ≤ 128) (n : Int) (h1 : -2000 ≤ n) (h2 : n ≤ 2000) (d : Nat) : ∀ (k i : Nat) (out : List Bool), i ≤ la.length → la.length - i = d → d < k → out.length = i →
    (∀ j, j < i → out.getD j false = if 0 ≤ (j : Int) - n then la.getD ((j : Int) - n).toNat false else false) →
    ∃ r, pointsmanref01_up.l0 k la n out i = some r ∧ r.length = la.length ∧ ∀ j, j < la.length → r.getD j false = if 0 ≤ (j : Int) - n then la.getD ((j : Int) - n).toNat false else false := by
  induction d with
  | zero =>
    intro k i out h0 hd hk ho hv
    obtain ⟨k, rfl⟩ : ∃ m, k = m + 1 := ⟨k - 1, by omega⟩
    exact ⟨out, by rw [pointsmanref01_up.l0, if_neg (by omega)], by omega, fun j hj => hv j (by omega)⟩
  | succ d ih =>
    intro k i out h0 hd hk ho hv
    obtain ⟨k, rfl⟩ : ∃ m, k = m + 1 := ⟨k - 1, by omega⟩
    have hw : wrap64 ((i : Int) - n) = (i : Int) - n := by unfold wrap64; omega
    have hs : ∀ b : Bool, (b = if 0 ≤ (i : Int) - n then la.getD ((i : Int) - n).toNat false else false) → ∃ r, pointsmanref01_up.l0 k la n (out ++ [b]) (wrap64 ((i : Int) + 1)) = some r ∧ r.length = la.length ∧ ∀ j, j < la.length → r.getD j false = if 0 ≤ (j : Int) - n then la.getD ((j : Int) - n).toNat false else false := by
      intro b hb
      rw [wrap_succ (by omega)]
      refine ih k (i + 1) _ (by omega) (by omega) (by omega) (by simp [ho]) fun j hj => ?_
      rcases Nat.lt_or_ge j i with hj2 | hj2
      · rw [← hv j hj2]
        simp [List.getD_eq_getElem?_getD, List.getElem?_append, ho, hj2]
      · obtain rfl : j = i := by omega
        rw [← hb]
        simp [List.getD_eq_getElem?_getD, List.getElem?_append, ho]
    rw [pointsmanref01_up.l0, if_pos (by omega), hw]
    by_cases c1 : (i : Int) - n ≥ 0
    · rw [if_pos c1]
      by_cases c2 : (i : Int) - n < (la.length : Int)
      · rw [if_pos c2, if_pos (by omega), if_pos (by omega)]
        exact hs _ (by rw [if_pos (by omega)]; rfl)
      · rw [if_neg c2, if_pos (by omega)]
        refine hs _ ?_
        rw [if_pos (by omega), getD_none _ _ (by omega)]
    · rw [if_neg c1, if_pos (by omega)]
      exact hs _ (by rw [if_neg (by omega)])
theorem rup_is (la : List Bool) (hn : la.length ≤ 128) (n : Int) (h1 : -2000 ≤ n) (h2 : n ≤ 2000) (k : Nat) (hk : 200 < k) :
    ∃ r, pointsmanref01_up.f k la n = some r ∧ r.length = la.length ∧ natL r = if 0 ≤ n then natL la * 2 ^ n.toNat % 2 ^ la.length else natL la / 2 ^ (-n).toNat := by
  obtain ⟨r, hr, hl, hb⟩ := rup_l la hn n h1 h2 la.length k 0 [] (by omega) (by omega) (by omega) rfl (fun j hj => by omega)
  refine ⟨r, hr, hl, Nat.eq_of_testBit_eq fun i => ?_⟩
  rw [natL_bit]
  have hla : ∀ j, la.length ≤ j → la.getD j false = false := fun j hj => getD_none _ _ hj
  by_cases hi : i < la.length
  · rw [hb i hi]
    by_cases c : 0 ≤ n
    · rw [if_pos c, Nat.testBit_mod_two_pow, Nat.testBit_mul_two_pow, natL_bit]
      by_cases c2 : 0 ≤ (i : Int) - n
      · rw [if_pos c2, show ((i : Int) - n).toNat = i - n.toNat from by omega]
        simp [hi, show n.toNat ≤ i from by omega]
      · rw [if_neg c2]
        simp [show ¬ n.toNat ≤ i from by omega]
    · rw [if_neg c, if_pos (by omega), Nat.testBit_div_two_pow, natL_bit]
      congr 1
      omega
  · rw [getD_none _ _ (by omega)]
    by_cases c : 0 ≤ n
    · rw [if_pos c, Nat.testBit_mod_two_pow]; simp [hi]
    · rw [if_neg c, Nat.testBit_div_two_pow, natL_bit, hla _ (by omega)]
/-- value: at most 1000. -/
theorem rvalue_l (la : List Bool) (hn : la.length ≤ 128) (d : Nat) : ∀ (k : Nat) (n i : Nat), i = d → i ≤ la.length → 2 * d + 1 < k → n = natL (la.drop i) ∨ 1000 ≤ n ∧ n ≤ natL (la.drop i) ∧ n < 4000 → n < 4000 →
    pointsmanref01_value.l0 k la n ((i : Int) - 1) = some ((min (natL la) 1000 : Nat) : Int) := by
  induction d with
  | zero =>
    intro k n i hd h0 hk hv hb
    obtain ⟨k, rfl⟩ : ∃ m, k = m + 2 := ⟨k - 2, by omega⟩
    subst hd
    rw [pointsmanref01_value.l0, if_neg (by omega), pointsmanref01_value.j1, if_neg (by decide)]
    simp only [List.drop_zero] at hv
    unfold mn
    congr 1
    split <;> omega
  | succ d ih =>
    intro k n i hd h0 hk hv hb
    obtain ⟨k, rfl⟩ : ∃ m, k = m + 2 := ⟨k - 2, by omega⟩
    subst hd
    have hlt : d < la.length := by omega
    have hdrop : natL (la.drop d) = (la.getD d false).toNat + 2 * natL (la.drop (d + 1)) := by
      rw [List.drop_eq_getElem_cons hlt]
      simp [natL, List.getD_eq_getElem?_getD, hlt]
    have hge : ∀ j, j ≤ la.length → natL (la.drop j) ≤ natL la := by
      intro j hj
      have := natL_append (la.take j) (la.drop j)
      rw [List.take_append_drop] at this
      have h2 := Nat.two_pow_pos (la.take j).length
      have h3 := Nat.mul_le_mul_right (natL (la.drop j)) h2
      omega
    rw [pointsmanref01_value.l0, if_pos (by omega)]
    by_cases c : n < 1000
    · have hn2 : n = natL (la.drop (d + 1)) := by omega
      rw [pointsmanref01_value.j1, if_pos (by simpa using (by omega : (n : Int) < 1000)), if_pos (by omega), if_pos (by omega), show ((d + 1 : Nat) : Int) - 1 = (d : Int) from by omega, rd_at]
      have w1 : wrap64 (2 * (n : Int)) = ((2 * n : Nat) : Int) := by unfold wrap64; omega
      have w2 : wrap64 (((2 * n : Nat) : Int) + 1) = ((2 * n + 1 : Nat) : Int) := by unfold wrap64; omega
      have w3 : wrap64 ((d : Int) - 1) = (d : Int) - 1 := by unfold wrap64; omega
      rw [w1, w2, w3]
      cases hbit : la.getD d false
      · rw [if_neg (by decide)]
        rw [hbit] at hdrop
        exact ih k (2 * n) d rfl (by omega) (by omega) (.inl (by simp at hdrop; omega)) (by omega)
      · rw [if_pos rfl]
        rw [hbit] at hdrop
        exact ih k (2 * n + 1) d rfl (by omega) (by omega) (.inl (by simp at hdrop; omega)) (by omega)
    · rw [pointsmanref01_value.j1, if_neg (by simpa using (by omega : (1000 : Int) ≤ (n : Int)))]
      have := hge (d + 1) (by omega)
      unfold mn
      congr 1
      split <;> omega
theorem rvalue_is (la : List Bool) (hn : la.length ≤ 128) (k : Nat) (hk : 300 < k) : pointsmanref01_value.f k la = some ((min (natL la) 1000 : Nat) : Int) := by
  unfold pointsmanref01_value.f
  rw [show wrap64 ((la.length : Int) - 1) = (la.length : Int) - 1 from by unfold wrap64; omega]
  exact rvalue_l la hn la.length k 0 la.length rfl (Nat.le_refl _) (by omega) (.inl (by simp [natL])) (by omega)
/-! ### mul -/
theorem rmul_l (la lb : List Bool) (hl : la.length = lb.length) (hn : la.length ≤ 128) (d : Nat) : ∀ (k i : Nat) (out : List Bool), i ≤ lb.length → lb.length - i = d → d + 400 < k → out.length = la.length →
    natL out = natL la * natL (lb.take i) % 2 ^ la.length → ∃ r, pointsmanref01_mul.l0 k la lb out i = some r ∧ r.length = la.length ∧ natL r = natL la * natL lb % 2 ^ la.length := by
  induction d with
  | zero =>
    intro k i out h0 hd hk ho hv
    obtain ⟨k, rfl⟩ : ∃ m, k = m + 1 := ⟨k - 1, by omega⟩
    refine ⟨out, by rw [pointsmanref01_mul.l0, if_neg (by omega)], ho, ?_⟩
    rw [List.take_of_length_le (by omega)] at hv
    exact hv
  | succ d ih =>
    intro k i out h0 hd hk ho hv
    obtain ⟨k, rfl⟩ : ∃ m, k = m + 1 := ⟨k - 1, by omega⟩
    have ht := natL_take_succ (show i < lb.length by omega)
    rw [pointsmanref01_mul.l0, if_pos (by omega), if_pos (by omega), rd_at, wrap_succ (by omega)]
    cases hb : lb.getD i false
    · rw [if_neg (by decide)]
      refine ih k (i + 1) out (by omega) (by omega) (by omega) ho ?_
      rw [ht, hb, hv]; simp
    · rw [if_pos rfl]
      obtain ⟨u, hu1, hu2, hu3⟩ := rup_is la hn i (by omega) (by omega) k (by omega)
      obtain ⟨s, hs1, hs2, hs3⟩ := radd_is out u (by omega) (by omega) false k (by omega)
      rw [hu1, Option.bind_some, hs1, Option.bind_some]
      refine ih k (i + 1) s (by omega) (by omega) (by omega) (by omega) ?_
      rw [hs3, hu3, if_pos (by omega), hv, ho, ht, hb]
      simp only [Bool.toNat_false, Nat.add_zero, Int.toNat_natCast, Bool.toNat_true, Nat.mul_one]
      rw [← Nat.add_mod, Nat.mul_add]
theorem rmul_is (la lb : List Bool) (hl : la.length = lb.length) (hn : la.length ≤ 128) (k : Nat) (hk : 600 < k) :
    ∃ r, pointsmanref01_mul.f k la lb = some r ∧ r.length = la.length ∧ natL r = natL la * natL lb % 2 ^ la.length := by
  unfold pointsmanref01_mul.f
  rw [if_pos (by omega), if_pos (by omega)]
  have hz : ∀ n, natL (List.replicate n false) = 0 := by
    intro n
    induction n with
    | zero => rfl
    | succ n ih => simp [List.replicate_succ, natL, ih]
  exact rmul_l la lb hl hn lb.length k 0 _ (by omega) (by omega) (by omega) (by simp) (by rw [hz]; simp [natL])

/-! ### bit by bit -/
def bitOf (op : Nat) (a b : Bool) : Bool := if op = 8 then a && b else if op = 9 then a || b else a != b
theorem reach_l (op : Nat) (la lb : List Bool) (hl : la.length = lb.length) (hn : la.length ≤ 128) (d : Nat) : ∀ (k i : Nat) (out : List Bool), i ≤ la.length → la.length - i = d → d < k → out.length = i →
    (∀ j, j < i → out.getD j false = bitOf op (la.getD j false) (lb.getD j false)) → ∃ r, pointsmanref01_each.l0 k op la lb out i = some r ∧ r.length = la.length ∧ ∀ j, j < la.length → r.getD j false = bitOf op (la.getD j false) (lb.getD j false) := by
  induction d with
  | zero =>
    intro k i out h0 hd hk ho hv
    obtain ⟨k, rfl⟩ : ∃ m, k = m + 1 := ⟨k - 1, by omega⟩
    exact ⟨out, by rw [pointsmanref01_each.l0, if_neg (by omega)], by omega, fun j hj => hv j (by omega)⟩
  | succ d ih =>
    intro k i out h0 hd hk ho hv
    obtain ⟨k, rfl⟩ : ∃ m, k = m + 1 := ⟨k - 1, by omega⟩
    have hs : ∀ b : Bool, b = bitOf op (la.getD i false) (lb.getD i false) → ∃ r, pointsmanref01_each.l0 k op la lb (out ++ [b]) (wrap64 ((i : Int) + 1)) = some r ∧ r.length = la.length ∧ ∀ j, j < la.length → r.getD j false = bitOf op (la.getD j false) (lb.getD j false) := by
      intro b hb
      rw [wrap_succ (by omega)]
      refine ih k (i + 1) _ (by omega) (by omega) (by omega) (by simp [ho]) fun j hj => ?_
      rcases Nat.lt_or_ge j i with hj2 | hj2
      · rw [← hv j hj2]
        simp [List.getD_eq_getElem?_getD, List.getElem?_append, ho, hj2]
      · obtain rfl : j = i := by omega
        rw [← hb]
        simp [List.getD_eq_getElem?_getD, List.getElem?_append, ho]
    rw [pointsmanref01_each.l0, if_pos (by omega)]
    by_cases c8 : op = 8
    · rw [if_pos (by omega), if_pos (by omega)]
      by_cases ha : rdOf false la (i : Int) = true
      · rw [if_pos ha, if_pos (by omega), if_pos (by omega)]; exact hs _ (by unfold bitOf; rw [if_pos c8, (show la.getD i false = true from ha)]; rfl)
      · rw [if_neg ha, if_pos (by omega)]; exact hs false (by unfold bitOf; rw [if_pos c8, (show la.getD i false = false from Bool.eq_false_iff.mpr ha)]; rfl)
    · rw [if_neg (by omega)]
      by_cases c9 : op = 9
      · rw [if_pos (by omega), if_pos (by omega)]
        by_cases ha : rdOf false la (i : Int) = true
        · rw [if_pos ha, if_pos (by omega)]; exact hs true (by unfold bitOf; rw [if_neg c8, if_pos c9, (show la.getD i false = true from ha)]; rfl)
        · rw [if_neg ha, if_pos (by omega), if_pos (by omega)]; exact hs _ (by unfold bitOf; rw [if_neg c8, if_pos c9, (show la.getD i false = false from Bool.eq_false_iff.mpr ha)]; rfl)
      · rw [if_neg (by omega), if_pos (by omega), if_pos (by omega), if_pos (by omega)]
        exact hs _ (by unfold bitOf; rw [if_neg c8, if_neg c9]; rfl)
def numOf (op : Nat) (a b : Nat) : Nat := if op = 8 then a &&& b else if op = 9 then a ||| b else a ^^^ b
theorem reach_is (op : Nat) (la lb : List Bool) (hl : la.length = lb.length) (hn : la.length ≤ 128) (k : Nat) (hk : 200 < k) :
    ∃ r, pointsmanref01_each.f k op la lb = some r ∧ r.length = la.length ∧ natL r = numOf op (natL la) (natL lb) := by
  obtain ⟨r, hr, hlen, hb⟩ := reach_l op la lb hl hn la.length k 0 [] (by omega) (by omega) (by omega) rfl (fun j hj => by omega)
  refine ⟨r, hr, hlen, Nat.eq_of_testBit_eq fun i => ?_⟩
  rw [natL_bit]
  have h1 : r.getD i false = bitOf op (la.getD i false) (lb.getD i false) := by
    by_cases hi : i < la.length
    · exact hb i hi
    · rw [getD_none _ _ (by omega), getD_none _ _ (by omega), getD_none _ _ (by omega)]
      unfold bitOf
      split
      · rfl
      · split <;> rfl
  rw [h1]
  unfold bitOf numOf
  split
  · rw [Nat.testBit_and, natL_bit, natL_bit]
  · split
    · rw [Nat.testBit_or, natL_bit, natL_bit]
    · rw [Nat.testBit_xor, natL_bit, natL_bit]

/-! ### below -/
theorem rbelow_l (la lb : List Bool) (hl : la.length = lb.length) (hn : la.length ≤ 128) (d : Nat) : ∀ (k i : Nat), i = d → i ≤ la.length → d < k → natL (la.drop i) = natL (lb.drop i) →
    pointsmanref01_below.l0 k la lb ((i : Int) - 1) = some (decide (natL la < natL lb)) := by
  induction d with
  | zero =>
    intro k i hd h0 hk hv
    obtain ⟨k, rfl⟩ : ∃ m, k = m + 1 := ⟨k - 1, by omega⟩
    subst hd
    simp only [List.drop_zero] at hv
    rw [pointsmanref01_below.l0, if_neg (by omega), hv]
    simp
  | succ d ih =>
    intro k i hd h0 hk hv
    obtain ⟨k, rfl⟩ : ∃ m, k = m + 1 := ⟨k - 1, by omega⟩
    subst hd
    have e1 : ∀ l : List Bool, d < l.length → natL l = natL (l.take d) + 2 ^ d * ((l.getD d false).toNat + 2 * natL (l.drop (d + 1))) ∧ natL (l.take d) < 2 ^ d ∧ natL (l.drop d) = (l.getD d false).toNat + 2 * natL (l.drop (d + 1)) := by
      intro l h
      have h1 := natL_append (l.take d) (l.drop d)
      rw [List.take_append_drop, List.length_take, Nat.min_eq_left (by omega)] at h1
      have h2 : natL (l.drop d) = (l.getD d false).toNat + 2 * natL (l.drop (d + 1)) := by
        rw [List.drop_eq_getElem_cons h]
        simp [natL, List.getD_eq_getElem?_getD, h]
      exact ⟨by rw [h1, h2], natL_take_lt l d, h2⟩
    obtain ⟨a1, a2, a3⟩ := e1 la (by omega)
    obtain ⟨b1, b2, b3⟩ := e1 lb (by omega)
    rw [pointsmanref01_below.l0, if_pos (by omega), if_pos (by omega), if_pos (by omega), if_pos (by omega), show ((d + 1 : Nat) : Int) - 1 = (d : Int) from by omega, rd_at, rd_at]
    have w3 : wrap64 ((d : Int) - 1) = (d : Int) - 1 := by unfold wrap64; omega
    rw [w3]
    rw [hv] at a1 a3
    generalize natL (lb.drop (d + 1)) = t at *
    by_cases hab : la.getD d false = lb.getD d false
    · rw [if_neg (by rw [hab]; simp)]
      exact ih k d rfl (by omega) (by omega) (by rw [a3, b3, hab])
    · rw [if_pos (by simpa using hab)]
      congr 1
      rw [a1, b1]
      have hp := Nat.two_pow_pos d
      generalize 2 ^ d = p at *
      cases ha : la.getD d false <;> cases hb : lb.getD d false
      · rw [ha, hb] at hab; exact absurd rfl hab
      · simp only [Bool.toNat_false, Bool.toNat_true, Nat.mul_add, Nat.mul_zero, Nat.mul_one]
        simp; omega
      · simp only [Bool.toNat_false, Bool.toNat_true, Nat.mul_add, Nat.mul_zero, Nat.mul_one]
        simp; omega
      · rw [ha, hb] at hab; exact absurd rfl hab
theorem rbelow_is (la lb : List Bool) (hl : la.length = lb.length) (hn : la.length ≤ 128) (k : Nat) (hk : 200 < k) : pointsmanref01_below.f k la lb = some (decide (natL la < natL lb)) := by
  unfold pointsmanref01_below.f
  rw [show wrap64 ((la.length : Int) - 1) = (la.length : Int) - 1 from by unfold wrap64; omega]
  exact rbelow_l la lb hl hn la.length k la.length rfl (Nat.le_refl _) (by omega) (by rw [List.drop_of_length_le (by omega), List.drop_of_length_le (by omega)])
theorem rone_is (c : Bool) : pointsmanref01_one.f c = some [c] := rfl
theorem natL_one (c : Bool) : natL [c] = c.toNat := by simp [natL]
end Go.Proofs.Ythhlnghpbjmfpaa.PTryFns
