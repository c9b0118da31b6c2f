/- The library's functions that read a number's text; bits.Parse. -/
import Derived.Test.YtbgeejmhkmjfdaaGreatDoorAbText
import Derived.IntWalk
namespace Go.Proofs.YtbgeejmhkmjfdaaGreatDoor.Ln
open Go Go.RowKit Go.Ab Go.Proofs 
set_option linter.unusedVariables false
set_option linter.unusedSimpArgs false
theorem lift_any {Γ : World → Prop} {f : FuncId} {args : List D} {vs : List Value} {n : Value} (ha : plainVs args = some vs)
    (h : ∀ w, Γ w → Calls Tryz.prog f ⟨vs⟩ w fun e w' => ∃ u, e = .returned (.tuple #[n, u]) ∧ u.oneCell' = true ∧ Below w.heap.size w w') : CallsP Tryz.prog Γ f args (.tup [.sc n, .any]) := by
  intro S w us hg hS hus
  obtain rfl := rels_plain ha hus
  refine (h w hg).mono ?_
  rintro e w' ⟨u, he, h1, hb⟩
  exact ⟨_, S, he, .tup (.cons (.sc _) (.cons (.any h1) .nil)), Stab.le.refl _, hb, fun _ _ _ q => .inl q⟩
theorem lift_any1 {Γ : World → Prop} {f : FuncId} {args : List D} {vs : List Value} (ha : plainVs args = some vs)
    (h : ∀ w, Γ w → Calls Tryz.prog f ⟨vs⟩ w fun e w' => ∃ u, e = .returned u ∧ u.oneCell' = true ∧ Below w.heap.size w w') : CallsP Tryz.prog Γ f args .any := by
  intro S w us hg hS hus
  obtain rfl := rels_plain ha hus
  refine (h w hg).mono ?_
  rintro e w' ⟨u, he, h1, hb⟩
  exact ⟨_, S, he, .any h1, Stab.le.refl _, hb, fun _ _ _ q => .inl q⟩
def atoiN (s : ByteArray) : Int := match Lib.atoiAll s.data.toList with | .ok v => v | .range => Lib.atoiSat s.data.toList | _ => 0
theorem old_or {w w' : World} {s : ByteArray} (h : w' = w ∨ ∃ t, w' = Lib.bytesWorld w 5 t) : Below w.heap.size w w' := by
  rcases h with rfl | ⟨t, rfl⟩
  · exact Below.refl _ _
  · exact Lib.bytesWorld_below _ _ _
theorem atoi_c (s : ByteArray) (hs : s.size ≤ 281474976710656) : CallsP Tryz.prog Lw 77 [.sc (.string s)] (.tup [.sc (.int .i64 (atoiN s)), .any]) := by
  refine lift_any rfl fun w hg => ?_
  unfold atoiN
  obtain ⟨ev, e1, e2⟩ := hg.syn
  obtain ⟨ew, r1, r2⟩ := hg.rng
  cases h : Lib.atoiAll s.data.toList
  · exact (Tryz.strconv_Atoi_ok s (by omega) _ h w).mono fun e w' q => ⟨_, q.1, rfl, old_or (s := s) q.2⟩
  · exact (Tryz.strconv_Atoi_syntax s hs h ev w e1 e2).mono fun e w' ⟨N, q1, _, _, q2⟩ => ⟨_, q1, rfl, q2⟩
  · exact (Tryz.strconv_Atoi_range s hs h ew w r1 r2).mono fun e w' ⟨N, q1, _, _, q2⟩ => ⟨_, q1, rfl, q2⟩
theorem toErr_c (fn s : ByteArray) (b c : Int) (k : Nat) (hk : k = 1 ∨ k = 2) (hs : s.size ≤ 281474976710656) : CallsP Tryz.prog Lw 79 [.sc (.string fn), .sc (.string s), .sc (.int .i64 b), .sc (.int .i64 c), .sc (.iface 178 (.int .i64 k))] .any := by
  refine lift_any1 rfl fun w hg => ?_
  obtain ⟨ev, e1, e2⟩ := hg.syn
  obtain ⟨ew, r1, r2⟩ := hg.rng
  rcases hk with rfl | rfl
  · exact (Tryz.strconv_toError_range fn s b c ew w hs r1 r2).mono fun e w' ⟨N, q1, _, _, q2⟩ => ⟨_, q1, rfl, q2⟩
  · exact (Tryz.strconv_toError_syntax fn s b c ev w hs e1 e2).mono fun e w' ⟨N, q1, _, _, q2⟩ => ⟨_, q1, rfl, q2⟩
theorem idx_c (s : ByteArray) : CallsP Tryz.prog Lw 144 [.sc (.string s), .sc (.string ⟨#[119]⟩)] (.sc (.int .i64 (Lib.indexByte s.data.toList 119))) :=
  lift rfl rfl fun w _ => (Tryz.stringslite_Index_one s 119 w).mono fun e w' q => ⟨q.1, by rw [q.2]; exact Below.refl _ _⟩
theorem idx_lt : ∀ (l : List UInt8) (c : UInt8), Lib.indexByte l c < (l.length : Int) ∨ (l = [] ∧ Lib.indexByte l c = -1)
  | [], c => .inr ⟨rfl, rfl⟩
  | b :: l, c => by
    left
    unfold Lib.indexByte
    have := idx_lt l c
    split
    · simp <;> omega
    · split
      · simp <;> omega
      · rcases this with h | ⟨rfl, h⟩
        · simp <;> omega
        · simp [Lib.indexByte] at *
theorem idx_le (s : ByteArray) (c : UInt8) (h : 0 ≤ Lib.indexByte s.data.toList c) : Lib.indexByte s.data.toList c < (s.size : Int) := by
  rcases idx_lt s.data.toList c with q | ⟨_, q⟩
  · simpa using q
  · omega
def cutA (s : ByteArray) : ByteArray := if 0 ≤ Lib.indexByte s.data.toList 119 then s.extract 0 (Lib.indexByte s.data.toList 119).toNat else s
def cutB (s : ByteArray) : ByteArray := if 0 ≤ Lib.indexByte s.data.toList 119 then s.extract ((Lib.indexByte s.data.toList 119).toNat + 1) s.size else ⟨#[]⟩
def cutD (s : ByteArray) : D := .tup [.sc (.string (cutA s)), .sc (.string (cutB s)), .sc (.bool (decide (0 ≤ Lib.indexByte s.data.toList 119)))]
def dig (c : Nat) : Option Nat := if 48 ≤ c ∧ c ≤ 57 then some (c - 48) else if 97 ≤ c ||| 32 ∧ c ||| 32 ≤ 122 then some ((c ||| 32) - 87) else none
def pu16 : Nat → List UInt8 → Nat × Nat
  | n, [] => (n, 0)
  | n, c :: l => match dig c.toNat with
    | none => (0, 2)
    | some d => if 16 ≤ d then (0, 2) else if 1152921504606846976 ≤ n then (18446744073709551615, 1) else pu16 (n * 16 + d) l
def puOf (s : ByteArray) : Nat × Nat := if s.size = 0 then (0, 2) else pu16 0 s.data.toList
theorem pu_bad {n : Nat} {c : UInt8} {l : List UInt8} (h : dig c.toNat = none) : pu16 n (c :: l) = (0, 2) := by simp [pu16, h]
theorem pu_big {n d : Nat} {c : UInt8} {l : List UInt8} (h : dig c.toNat = some d) (hd : 16 ≤ d) : pu16 n (c :: l) = (0, 2) := by simp [pu16, h, hd]
theorem pu_rng {n d : Nat} {c : UInt8} {l : List UInt8} (h : dig c.toNat = some d) (hd : ¬ 16 ≤ d) (hn : 1152921504606846976 ≤ n) : pu16 n (c :: l) = (18446744073709551615, 1) := by simp [pu16, h, hd, hn]
theorem pu_go {n d : Nat} {c : UInt8} {l : List UInt8} (h : dig c.toNat = some d) (hd : ¬ 16 ≤ d) (hn : ¬ 1152921504606846976 ≤ n) : pu16 n (c :: l) = pu16 (n * 16 + d) l := by simp [pu16, h, hd, hn]
def errV : Nat → Value
  | 0 => .nilIface
  | k + 1 => .iface 178 (.int .i64 ((k + 1 : Nat) : Int))
def puD (r : Nat × Nat) : D := .tup [.sc (.int .u64 (r.1 : Int)), .sc (errV r.2)]
theorem low_is {c : Nat} (h : c < 256) : Go.bits .or .u8 (c : Int) 32 = ((c ||| 32 : Nat) : Int) := (bits_nat .u8 8 (by decide) (fun n h0 h1 => by simp [IntKind.wrap, IntKind.bits, IntKind.signed]; omega) c 32 h (by decide)).2
theorem u8_in {n : Nat} (h : n < 256) : IntKind.u8.wrap (n : Int) = n := by simp [IntKind.wrap, IntKind.bits, IntKind.signed]; omega
theorem u8_sub {c k : Nat} (h : c < 256) (hk : k ≤ c) : IntKind.u8.wrap ((c : Int) - k) = ((c - k : Nat) : Int) := by simp [IntKind.wrap, IntKind.bits, IntKind.signed]; omega
theorem u8_add {c k : Nat} (h : c + k < 256) : IntKind.u8.wrap ((c : Int) + k) = ((c + k : Nat) : Int) := by simp [IntKind.wrap, IntKind.bits, IntKind.signed]; omega
theorem u64_in {n : Nat} (h : n < 18446744073709551616) : IntKind.u64.wrap (n : Int) = n := by rw [wrap_u64]; omega
theorem str_beq (s t : ByteArray) : (s.toList == t.toList) = decide (s = t) := by
  rw [ByteArray.toList_eq, ByteArray.toList_eq]
  by_cases h : s = t
  · subst h; simp
  · simp only [h, decide_false, beq_eq_false_iff_ne, ne_eq]
    intro q; apply h
    cases s; cases t
    congr 1
    exact Array.toList_inj.mp q
theorem dig_num {c : Nat} (h : 48 ≤ c) (h' : c ≤ 57) : dig c = some (c - 48) := if_pos ⟨h, h'⟩
theorem dig_let {c : Nat} (h : ¬ (48 ≤ c ∧ c ≤ 57)) (h1 : 97 ≤ c ||| 32) (h2 : c ||| 32 ≤ 122) : dig c = some ((c ||| 32) - 87) := by rw [dig, if_neg h, if_pos ⟨h1, h2⟩]
theorem dig_no {c : Nat} (h : ¬ (48 ≤ c ∧ c ≤ 57)) (h1 : ¬ (97 ≤ c ||| 32 ∧ c ||| 32 ≤ 122)) : dig c = none := by rw [dig, if_neg h, if_neg h1]
theorem or_lt {c : Nat} (h : c < 256) : c ||| 32 < 256 := Nat.or_lt_two_pow (n := 8) h (by decide)
theorem ext_le (s : ByteArray) (i j : Nat) : (s.extract i j).size ≤ s.size := by rw [ByteArray.size_extract]; omega
theorem cutA_le (s : ByteArray) : (cutA s).size ≤ s.size := by unfold cutA; split; exact ext_le _ _ _; exact Nat.le_refl _
theorem cutB_le (s : ByteArray) : (cutB s).size ≤ s.size := by unfold cutB; split; exact ext_le _ _ _; exact Nat.zero_le _
theorem pu16_lt : ∀ (l : List UInt8) (n : Nat), n < 18446744073709551616 → (pu16 n l).1 < 18446744073709551616
  | [], n, h => h
  | c :: l, n, h => by
    unfold pu16
    split
    · decide
    · rename_i d hd
      split
      · decide
      · split
        · decide
        · exact pu16_lt l _ (by omega)
theorem puOf_lt (s : ByteArray) : (puOf s).1 < 18446744073709551616 := by
  unfold puOf
  split
  · decide
  · exact pu16_lt _ _ (by decide)
def pW (s : ByteArray) : Int := atoiN (cutA s)
def pL (s : ByteArray) : Nat := (puOf ((cutB s).extract ((cutB s).size - 16) (cutB s).size)).1
def pH (s : ByteArray) : Nat := (puOf ((cutB s).extract 0 ((cutB s).size - 16))).1
def pV (s : ByteArray) : Nat := pH s * 18446744073709551616 + pL s
theorem pV_lt (s : ByteArray) : pV s < 2 ^ 128 := by
  have h1 : pL s < 18446744073709551616 := puOf_lt _
  have h2 : pH s < 18446744073709551616 := puOf_lt _
  unfold pV; omega
theorem pV_hi (s : ByteArray) : hiOf (pV s) = (pH s : Int) := by
  have h1 : pL s < 18446744073709551616 := puOf_lt _
  unfold hiOf pV; omega
theorem pV_lo (s : ByteArray) : loOf (pV s) = (pL s : Int) := by
  have h1 : pL s < 18446744073709551616 := puOf_lt _
  unfold loOf pV; omega
def Yes (s : ByteArray) : Prop := ∃ w : Nat, pW s = (w : Int) ∧ 1 ≤ w ∧ w ≤ 128 ∧ pV s < 2 ^ w ∧ textB w (pV s) = s
theorem str_ne {s t : ByteArray} (h : s ≠ t) : (!(s.toList == t.toList)) = true := by rw [str_beq, decide_eq_false h]; rfl
theorem str_ne0 {s t : ByteArray} (h : s = t) : (!(s.toList == t.toList)) = false := by rw [str_beq, decide_eq_true h]; rfl
set_option maxRecDepth 100000 in
theorem lcut_w (s : ByteArray) (hs : s.size ≤ 281474976710656) : CallsP Tryz.prog Lw 113 [.sc (.string s), .sc (.string ⟨#[119]⟩)] (cutD s) := by
  have hlt := idx_le s 119
  refine callsP_of gs_lw Tryz.func113 rfl Tryz.ntmps113 rfl fun w0 S0 stab => ?_
  refine hits_seq ?_
  refine hits_region ?_
  refine sq (f_assign rfl (lt rfl)) rfl rfl ?_
  refine sq (f_assign rfl (lt rfl)) rfl rfl ?_
  refine sq (f_assign rfl (lt rfl)) rfl rfl ?_
  refine hits_nil ?_
  refine to_next ?_
  refine hits_seq ?_
  refine hits_seq ?_
  refine hits_region ?_
  refine sq (f_move rfl (lt rfl)) rfl rfl ?_
  refine sq (f_move rfl (lt rfl)) rfl rfl ?_
  refine sq (f_call en144 rfl (idx_c s) (lt rfl)) rfl rfl ?_
  refine sq (f_assign rfl (lt rfl)) rfl rfl ?_
  refine hits_nil ?_
  refine to_next ?_
  refine hits_seq ?_
  by_cases h : 0 ≤ Lib.indexByte s.data.toList 119
  · have hl := hlt h
    refine hits_region ?_
    refine sq (f_move rfl (lt rfl)) rfl rfl ?_
    refine sq (f_bin rfl rfl (bT (decide_eq_true h)) (lt rfl)) rfl rfl ?_
    refine hits_nil ?_
    refine to_next ?_
    refine hits_cond rfl (fun c0 => ?_) (fun c0 => absurd c0 Bool.false_ne_true.symm)
    refine hits_seq ?_
    refine hits_drawn mixed ?_
    refine dq (f_move rfl (lt rfl)) rfl rfl ?_
    refine dq (f_move rfl (lt rfl)) rfl rfl ?_
    refine dq (f_sliceStr rfl rfl rfl un9 (Int.le_refl 0) h (Int.le_of_lt hl) (lt rfl)) rfl rfl ?_
    refine dq (f_move rfl (lt rfl)) rfl rfl ?_
    refine dq (f_move rfl (lt rfl)) rfl rfl ?_
    refine dq (f_move rfl (lt rfl)) rfl rfl ?_
    refine dq (f_lenStr rfl un9 (lt rfl)) rfl rfl ?_
    refine dq (f_bin rfl rfl (iT ((IntWalk.i64_in _ (by omega) : _ = Lib.indexByte s.data.toList 119 + 1))) (lt rfl)) rfl rfl ?_
    refine dq (f_sliceStr rfl rfl rfl un9 (by omega) (by omega) (Int.le_refl _) (lt rfl)) rfl rfl ?_
    refine dq (f_assign rfl (lt rfl)) rfl rfl ?_
    refine dq (f_assign rfl (lt rfl)) rfl rfl ?_
    refine dq (f_assign rfl (lt rfl)) rfl rfl ?_
    refine dq_nil rfl ?_
    refine to_next ?_
    refine hits_ret ?_
    refine to_ret ?_
    exact hits_done (.inl rfl) rfl rfl (by rw [cutD, cutA, cutB, if_pos h, if_pos h, decide_eq_true h, show (Lib.indexByte s.data.toList 119).toNat + 1 = (Lib.indexByte s.data.toList 119 + 1).toNat from by omega]; rfl)
  · refine hits_region ?_
    refine sq (f_move rfl (lt rfl)) rfl rfl ?_
    refine sq (f_bin rfl rfl (bT (decide_eq_false h)) (lt rfl)) rfl rfl ?_
    refine hits_nil ?_
    refine to_next ?_
    refine hits_cond rfl (fun c0 => absurd c0 Bool.false_ne_true) (fun c0 => ?_)
    refine hits_skip ?_
    refine to_next ?_
    refine hits_seq ?_
    refine hits_region ?_
    refine sq (f_move rfl (lt rfl)) rfl rfl ?_
    refine sq (f_assign rfl (lt rfl)) rfl rfl ?_
    refine sq (f_assign rfl (lt rfl)) rfl rfl ?_
    refine sq (f_assign rfl (lt rfl)) rfl rfl ?_
    refine hits_nil ?_
    refine to_next ?_
    refine hits_ret ?_
    exact hits_done (.inl rfl) rfl rfl (by rw [cutD, cutA, cutB, if_neg h, if_neg h, decide_eq_false h]; rfl)
set_option maxRecDepth 100000 in
theorem cut_w (s : ByteArray) (hs : s.size ≤ 281474976710656) : CallsP Tryz.prog Lw 76 [.sc (.string s), .sc (.string ⟨#[119]⟩)] (cutD s) := by
  refine callsP_of gs_lw Tryz.func76 rfl Tryz.ntmps76 rfl fun w0 S0 stab => ?_
  refine hits_seq ?_
  refine hits_region ?_
  refine sq (f_assign rfl (lt rfl)) rfl rfl ?_
  refine sq (f_assign rfl (lt rfl)) rfl rfl ?_
  refine sq (f_assign rfl (lt rfl)) rfl rfl ?_
  refine hits_nil ?_
  refine to_next ?_
  refine hits_seq ?_
  refine hits_region ?_
  refine sq (f_move rfl (lt rfl)) rfl rfl ?_
  refine sq (f_move rfl (lt rfl)) rfl rfl ?_
  refine sq (f_call en113 rfl (lcut_w s hs) (lt rfl)) rfl rfl ?_
  refine sq (f_extract rfl rfl (lt rfl)) rfl rfl ?_
  refine sq (f_extract rfl rfl (lt rfl)) rfl rfl ?_
  refine sq (f_extract rfl rfl (lt rfl)) rfl rfl ?_
  refine sq (f_assign rfl (lt rfl)) rfl rfl ?_
  refine sq (f_assign rfl (lt rfl)) rfl rfl ?_
  refine sq (f_assign rfl (lt rfl)) rfl rfl ?_
  refine hits_nil ?_
  refine to_next ?_
  refine hits_ret ?_
  exact hits_done (.inl rfl) rfl rfl rfl
set_option maxRecDepth 100000 in
theorem low_c {c : Nat} (h : c < 256) : CallsP Tryz.prog Lw 115 [.sc (.int .u8 (c : Int))] (.sc (.int .u8 ((c ||| 32 : Nat) : Int))) := by
  refine callsP_of gs_lw Tryz.func115 rfl Tryz.ntmps115 rfl fun w0 S0 stab => ?_
  refine hits_seq ?_
  refine hits_region ?_
  refine sq (f_assign rfl (lt rfl)) rfl rfl ?_
  refine hits_nil ?_
  refine to_next ?_
  refine hits_seq ?_
  refine hits_region ?_
  refine sq (f_move rfl (lt rfl)) rfl rfl ?_
  refine sq (f_bin rfl rfl (iT (low_is h)) (lt rfl)) rfl rfl ?_
  refine sq (f_assign rfl (lt rfl)) rfl rfl ?_
  refine hits_nil ?_
  refine to_next ?_
  refine hits_ret ?_
  exact hits_done (.inl rfl) rfl rfl rfl
set_option maxRecDepth 100000 in
theorem pu_none : CallsP Tryz.prog Lw 78 [.sc (.string ⟨#[]⟩), .sc (.int .i64 16), .sc (.int .i64 64)] (puD (0, 2)) := by
  refine callsP_of gs_lw Tryz.func78 rfl Tryz.ntmps78 rfl fun w0 S0 stab => ?_
  refine hits_seq ?_
  refine hits_region ?_
  refine sq (f_assign rfl (lt rfl)) rfl rfl ?_
  refine sq (f_assign rfl (lt rfl)) rfl rfl ?_
  refine hits_nil ?_
  refine to_next ?_
  refine hits_seq ?_
  refine hits_seq ?_
  refine hits_region ?_
  refine sq (f_move rfl (lt rfl)) rfl rfl ?_
  refine sq (f_bin rfl rfl (bT (b' := true) (beq_self_eq_true _)) (lt rfl)) rfl rfl ?_
  refine hits_nil ?_
  refine to_next ?_
  refine hits_cond rfl (fun c0 => ?_) (fun c0 => absurd c0 Bool.false_ne_true.symm)
  refine hits_seq ?_
  refine hits_region ?_
  refine sq (f_mkIface rfl nif178 (lt rfl)) rfl rfl ?_
  refine sq (f_assign rfl (lt rfl)) rfl rfl ?_
  refine sq (f_assign rfl (lt rfl)) rfl rfl ?_
  refine hits_nil ?_
  refine to_next ?_
  refine hits_ret ?_
  refine to_ret ?_
  exact hits_done (.inl rfl) rfl rfl rfl
set_option maxHeartbeats 4000000 in
set_option maxRecDepth 100000 in
theorem pu_some (s : ByteArray) (hs : s.size ≤ 281474976710656) (h0 : s.size ≠ 0) : CallsP Tryz.prog Lw 78 [.sc (.string s), .sc (.int .i64 16), .sc (.int .i64 64)] (puD (pu16 0 s.data.toList)) := by
  refine callsP_of gs_lw Tryz.func78 rfl Tryz.ntmps78 rfl fun w0 S0 stab => ?_
  refine hits_seq ?_
  refine hits_region ?_
  refine sq (f_assign rfl (lt rfl)) rfl rfl ?_
  refine sq (f_assign rfl (lt rfl)) rfl rfl ?_
  refine hits_nil ?_
  refine to_next ?_
  refine hits_seq ?_
  refine hits_seq ?_
  refine hits_region ?_
  refine sq (f_move rfl (lt rfl)) rfl rfl ?_
  refine sq (f_bin rfl rfl (bT (b' := false) (by rw [str_beq]; exact decide_eq_false (fun c => by subst c; exact h0 rfl))) (lt rfl)) rfl rfl ?_
  refine hits_nil ?_
  refine to_next ?_
  refine hits_cond rfl (fun c0 => absurd c0 Bool.false_ne_true) (fun c0 => ?_)
  refine hits_skip ?_
  refine to_next ?_
  refine hits_seq ?_
  refine hits_region ?_
  refine sq (f_move rfl (lt rfl)) rfl rfl ?_
  refine sq (f_bin rfl rfl (bT (b' := false) rfl) (lt rfl)) rfl rfl ?_
  refine sq (f_assign rfl (lt rfl)) rfl rfl ?_
  refine hits_nil ?_
  refine to_next ?_
  refine hits_seq ?_
  refine hits_region ?_
  refine sq (f_move rfl (lt rfl)) rfl rfl ?_
  refine sq (f_assign rfl (lt rfl)) rfl rfl ?_
  refine hits_nil ?_
  refine to_next ?_
  refine hits_seq ?_
  refine hits_block ?_
  refine hits_seq ?_
  refine hits_region ?_
  refine sq (f_move rfl (lt rfl)) rfl rfl ?_
  refine sq (f_bin rfl rfl (bT (b' := true) rfl) (lt rfl)) rfl rfl ?_
  refine sq (f_move rfl (lt rfl)) rfl rfl ?_
  refine sq_yes (f_move rfl (lt rfl)) rfl rfl rfl rfl (lt rfl) ?_
  refine sq_yes (f_bin rfl rfl (bT (b' := true) rfl) (lt rfl)) rfl rfl rfl rfl (lt rfl) ?_
  refine sq (f_pick rfl rfl (lt rfl)) rfl rfl ?_
  refine sq (f_assign rfl (lt rfl)) rfl rfl ?_
  refine hits_nil ?_
  refine to_next ?_
  refine hits_cond rfl (fun c1 => ?_) (fun c1 => absurd c1 Bool.false_ne_true.symm)
  refine hits_skip ?_
  refine in_next ?_
  refine to_next ?_
  refine hits_seq ?_
  refine hits_seq ?_
  refine hits_region ?_
  refine sq (f_move rfl (lt rfl)) rfl rfl ?_
  refine sq (f_bin rfl rfl (bT (b' := false) rfl) (lt rfl)) rfl rfl ?_
  refine hits_nil ?_
  refine to_next ?_
  refine hits_cond rfl (fun c7 => absurd c7 Bool.false_ne_true) (fun c7 => ?_)
  refine hits_seq ?_
  refine hits_region ?_
  refine sq (f_move rfl (lt rfl)) rfl rfl ?_
  refine sq (f_bin rfl rfl (bT (b' := false) rfl) (lt rfl)) rfl rfl ?_
  refine sq (f_move rfl (lt rfl)) rfl rfl ?_
  refine sq_yes (f_move rfl (lt rfl)) rfl rfl rfl rfl (lt rfl) ?_
  refine sq_yes (f_bin rfl rfl (bT (b' := false) rfl) (lt rfl)) rfl rfl rfl rfl (lt rfl) ?_
  refine sq (f_pick rfl rfl (lt rfl)) rfl rfl ?_
  refine hits_nil ?_
  refine to_next ?_
  refine hits_cond rfl (fun c8 => absurd c8 Bool.false_ne_true) (fun c8 => ?_)
  refine hits_skip ?_
  refine to_next ?_
  refine hits_seq ?_
  refine hits_region ?_
  refine sq (f_assign rfl (lt rfl)) rfl rfl ?_
  refine hits_nil ?_
  refine to_next ?_
  refine hits_seq ?_
  refine hits_seq ?_
  refine hits_region ?_
  refine sq (f_move rfl (lt rfl)) rfl rfl ?_
  refine hits_nil ?_
  refine to_next ?_
  refine hits_block ?_
  refine hits_seq ?_
  refine hits_region ?_
  refine sq (f_bin rfl rfl (bT (b' := false) rfl) (lt rfl)) rfl rfl ?_
  refine sq (f_assign rfl (lt rfl)) rfl rfl ?_
  refine hits_nil ?_
  refine to_next ?_
  refine hits_cond rfl (fun c9 => absurd c9 Bool.false_ne_true) (fun c9 => ?_)
  refine hits_seq ?_
  refine hits_region ?_
  refine sq (f_bin rfl rfl (bT (b' := true) rfl) (lt rfl)) rfl rfl ?_
  refine sq (f_assign rfl (lt rfl)) rfl rfl ?_
  refine hits_nil ?_
  refine to_next ?_
  refine hits_cond rfl (fun c10 => ?_) (fun c10 => absurd c10 Bool.false_ne_true.symm)
  refine hits_region ?_
  refine sq (f_assign rfl (lt rfl)) rfl rfl ?_
  refine hits_nil ?_
  refine in_next ?_
  refine to_next ?_
  refine hits_seq ?_
  refine hits_region ?_
  refine sq (f_move rfl (lt rfl)) rfl rfl ?_
  refine sq (f_convI rfl us3 un121 (by decide : _ = (64 : Int)) (lt rfl)) rfl rfl ?_
  refine sq (f_shl rfl rfl (by omega) (lt rfl)) rfl rfl ?_
  refine sq (f_bin rfl rfl (iT ((by decide : _ = (18446744073709551615 : Int)))) (lt rfl)) rfl rfl ?_
  refine sq (f_assign rfl (lt rfl)) rfl rfl ?_
  refine hits_nil ?_
  refine to_next ?_
  refine hits_seq ?_
  refine hits_region ?_
  refine sq (f_assign rfl (lt rfl)) rfl rfl ?_
  refine hits_nil ?_
  refine to_next ?_
  refine hits_seq ?_
  refine hits_region ?_
  refine sq (f_assign rfl (lt rfl)) rfl rfl ?_
  refine hits_nil ?_
  refine to_next ?_
  refine hits_seq ?_
  refine hits_seq ?_
  refine hits_region ?_
  refine sq (f_move rfl (lt rfl)) rfl rfl ?_
  refine sq (f_bytes rfl us9 un125 un5 (lt rfl)) rfl rfl ?_
  refine sq (f_lenList rfl rfl un125 (lt rfl)) rfl rfl ?_
  refine sq (f_move rfl (lt rfl)) rfl rfl ?_
  refine hits_nil ?_
  refine to_next ?_
  refine hits_block ?_
  refine hits_loop (fun x : Nat × Nat => [(.slot 1, some (.d (.sc (.int .i64 16)))), (.slot 8, some (.d (.sc (.bool false)))), (.slot 10, some (.d (.sc (.int .u64 1152921504606846976)))), (.slot 11, some (.d (.sc (.int .u64 18446744073709551615)))), (.slot 12, some (.d (.sc (.bool false)))), (.slot 13, some (.d (.sc (.int .u64 (x.1 : Int))))), (.slot 99, some (.d (.list 1 (bytesL s)))), (.slot 100, some (.d (.sc (.int .i64 ((bytesL s).length : Int))))), (.slot 101, some (.d (.sc (.int .i64 (x.2 : Int)))))]) (fun x => x.2 ≤ s.size ∧ x.1 < 18446744073709551616 ∧ pu16 0 s.data.toList = pu16 x.1 (s.data.toList.drop x.2)) (fun x => s.size - x.2) (0, 0) ⟨Nat.zero_le _, by decide, by simp⟩ ⟨rfl, rfl, rfl, rfl, rfl, rfl, rfl, rfl, rfl, trivial⟩ rfl ?_
  intro x hx
  obtain ⟨n, i⟩ := x
  obtain ⟨hi, hn64, hJ⟩ := hx
  simp only at hi hn64 hJ
  change Hits _ [(.slot 1, some (.d (.sc (.int .i64 16)))), (.slot 8, some (.d (.sc (.bool false)))), (.slot 10, some (.d (.sc (.int .u64 1152921504606846976)))), (.slot 11, some (.d (.sc (.int .u64 18446744073709551615)))), (.slot 12, some (.d (.sc (.bool false)))), (.slot 13, some (.d (.sc (.int .u64 (n : Int))))), (.slot 99, some (.d (.list 1 (bytesL s)))), (.slot 100, some (.d (.sc (.int .i64 ((bytesL s).length : Int))))), (.slot 101, some (.d (.sc (.int .i64 (i : Int)))))] _
  refine hits_seq ?_
  refine hits_region ?_
  refine sq (f_bin rfl rfl rfl (lt rfl)) rfl rfl ?_
  refine hits_nil ?_
  refine to_next ?_
  refine hits_seq ?_
  refine hits_cond rfl (fun c11 => ?_) (fun c11 => ?_)
  · refine hits_skip ?_
    refine to_next ?_
    refine hits_seq ?_
    refine hits_block ?_
    refine hits_seq ?_
    have hlt : i < s.size := by have := of_decide_eq_true c11; rw [bytesL_length] at this; omega
    obtain ⟨c, hat⟩ : ∃ c, s.data.toList[i]? = some c := ⟨_, List.getElem?_eq_getElem (by simpa using hlt)⟩
    have hb : (bytesL s)[((i : Int)).toNat]? = some (.sc (.int .u8 (c.toNat : Int))) := by rw [Int.toNat_natCast, bytesL, List.getElem?_map, hat]; rfl
    have hdrop : s.data.toList.drop i = c :: s.data.toList.drop (i + 1) := by obtain ⟨h1, h2⟩ := List.getElem?_eq_some_iff.mp hat; rw [List.drop_eq_getElem_cons h1, h2]
    have hc : c.toNat < 256 := c.toNat_lt
    have ho := or_lt hc
    refine hits_region ?_
    refine sq (f_idxList rfl rfl rfl un125 kd5 (Int.natCast_nonneg _) hb (lt rfl)) rfl rfl ?_
    refine sq (f_load kd5 rfl rfl (lt rfl)) rfl rfl ?_
    refine sq (f_assign rfl (lt rfl)) rfl rfl ?_
    refine hits_nil ?_
    refine to_next ?_
    refine hits_seq ?_
    refine hits_region ?_
    refine sq (f_assign rfl (lt rfl)) rfl rfl ?_
    refine hits_nil ?_
    refine to_next ?_
    refine hits_seq ?_
    refine hits_block ?_
    refine hits_seq ?_
    by_cases h1 : 48 ≤ c.toNat ∧ c.toNat ≤ 57
    · obtain ⟨h1, h2⟩ := h1
      refine hits_region ?_
      refine sq (f_move rfl (lt rfl)) rfl rfl ?_
      refine sq (f_bin rfl rfl (bT (beq_eq_false_iff_ne.mpr (by omega))) (lt rfl)) rfl rfl ?_
      refine sq (f_move rfl (lt rfl)) rfl rfl ?_
      refine sq_no rfl rfl rfl rfl rfl (lt rfl) (lt rfl) ?_
      refine sq (f_pick rfl rfl (lt rfl)) rfl rfl ?_
      refine sq (f_assign rfl (lt rfl)) rfl rfl ?_
      refine hits_nil ?_
      refine to_next ?_
      refine hits_cond rfl (fun c12 => absurd c12 Bool.false_ne_true) (fun c12 => ?_)
      refine hits_seq ?_
      refine hits_region ?_
      refine sq (f_move rfl (lt rfl)) rfl rfl ?_
      refine sq (f_bin rfl rfl (bT (decide_eq_true (by omega))) (lt rfl)) rfl rfl ?_
      refine sq (f_move rfl (lt rfl)) rfl rfl ?_
      refine sq_yes (f_move rfl (lt rfl)) rfl rfl rfl rfl (lt rfl) ?_
      refine sq_yes (f_bin rfl rfl (bT (decide_eq_true (by omega))) (lt rfl)) rfl rfl rfl rfl (lt rfl) ?_
      refine sq (f_pick rfl rfl (lt rfl)) rfl rfl ?_
      refine sq (f_assign rfl (lt rfl)) rfl rfl ?_
      refine hits_nil ?_
      refine to_next ?_
      refine hits_cond rfl (fun c13 => ?_) (fun c13 => absurd c13 Bool.false_ne_true.symm)
      refine hits_region ?_
      refine sq (f_move rfl (lt rfl)) rfl rfl ?_
      refine sq (f_bin rfl rfl (iT ((u8_sub hc h1 : _ = ((c.toNat - 48 : Nat) : Int)))) (lt rfl)) rfl rfl ?_
      refine sq (f_assign rfl (lt rfl)) rfl rfl ?_
      refine hits_nil ?_
      refine in_next ?_
      refine to_next ?_
      refine hits_seq ?_
      refine hits_seq ?_
      by_cases hd : 16 ≤ c.toNat - 48
      · refine hits_region ?_
        refine sq (f_move rfl (lt rfl)) rfl rfl ?_
        refine sq (f_move rfl (lt rfl)) rfl rfl ?_
        refine sq (f_convI rfl us3 un5 (by decide : _ = (16 : Int)) (lt rfl)) rfl rfl ?_
        refine sq (f_bin rfl rfl (bT (decide_eq_true (by omega))) (lt rfl)) rfl rfl ?_
        refine hits_nil ?_
        refine to_next ?_
        refine hits_cond rfl (fun c15 => ?_) (fun c15 => absurd c15 Bool.false_ne_true.symm)
        refine hits_seq ?_
        refine hits_region ?_
        refine sq (f_mkIface rfl nif178 (lt rfl)) rfl rfl ?_
        refine sq (f_assign rfl (lt rfl)) rfl rfl ?_
        refine sq (f_assign rfl (lt rfl)) rfl rfl ?_
        refine hits_nil ?_
        refine to_next ?_
        refine hits_ret ?_
        refine to_ret ?_
        refine in_ret ?_
        refine to_ret ?_
        refine to_ret ?_
        refine in_ret ?_
        refine to_ret ?_
        exact hits_done (.inl rfl) rfl rfl (by rw [hJ, hdrop, pu_big (dig_num h1 h2) hd]; rfl)
      · by_cases hn : 1152921504606846976 ≤ n
        · refine hits_region ?_
          refine sq (f_move rfl (lt rfl)) rfl rfl ?_
          refine sq (f_move rfl (lt rfl)) rfl rfl ?_
          refine sq (f_convI rfl us3 un5 (by decide : _ = (16 : Int)) (lt rfl)) rfl rfl ?_
          refine sq (f_bin rfl rfl (bT (decide_eq_false (by omega))) (lt rfl)) rfl rfl ?_
          refine hits_nil ?_
          refine to_next ?_
          refine hits_cond rfl (fun c15 => absurd c15 Bool.false_ne_true) (fun c15 => ?_)
          refine hits_skip ?_
          refine to_next ?_
          refine hits_seq ?_
          refine hits_seq ?_
          refine hits_region ?_
          refine sq (f_move rfl (lt rfl)) rfl rfl ?_
          refine sq (f_move rfl (lt rfl)) rfl rfl ?_
          refine sq (f_bin rfl rfl (bT (decide_eq_true (by omega))) (lt rfl)) rfl rfl ?_
          refine hits_nil ?_
          refine to_next ?_
          refine hits_cond rfl (fun c16 => ?_) (fun c16 => absurd c16 Bool.false_ne_true.symm)
          refine hits_seq ?_
          refine hits_region ?_
          refine sq (f_move rfl (lt rfl)) rfl rfl ?_
          refine sq (f_mkIface rfl nif178 (lt rfl)) rfl rfl ?_
          refine sq (f_assign rfl (lt rfl)) rfl rfl ?_
          refine sq (f_assign rfl (lt rfl)) rfl rfl ?_
          refine hits_nil ?_
          refine to_next ?_
          refine hits_ret ?_
          refine to_ret ?_
          refine in_ret ?_
          refine to_ret ?_
          refine to_ret ?_
          refine in_ret ?_
          refine to_ret ?_
          exact hits_done (.inl rfl) rfl rfl (by rw [hJ, hdrop, pu_rng (dig_num h1 h2) hd hn]; rfl)
        · have hm : n * 16 + (c.toNat - 48) < 18446744073709551616 := by omega
          refine hits_region ?_
          refine sq (f_move rfl (lt rfl)) rfl rfl ?_
          refine sq (f_move rfl (lt rfl)) rfl rfl ?_
          refine sq (f_convI rfl us3 un5 (by decide : _ = (16 : Int)) (lt rfl)) rfl rfl ?_
          refine sq (f_bin rfl rfl (bT (decide_eq_false (by omega))) (lt rfl)) rfl rfl ?_
          refine hits_nil ?_
          refine to_next ?_
          refine hits_cond rfl (fun c15 => absurd c15 Bool.false_ne_true) (fun c15 => ?_)
          refine hits_skip ?_
          refine to_next ?_
          refine hits_seq ?_
          refine hits_seq ?_
          refine hits_region ?_
          refine sq (f_move rfl (lt rfl)) rfl rfl ?_
          refine sq (f_move rfl (lt rfl)) rfl rfl ?_
          refine sq (f_bin rfl rfl (bT (decide_eq_false (by omega))) (lt rfl)) rfl rfl ?_
          refine hits_nil ?_
          refine to_next ?_
          refine hits_cond rfl (fun c16 => absurd c16 Bool.false_ne_true) (fun c16 => ?_)
          refine hits_skip ?_
          refine to_next ?_
          refine hits_seq ?_
          refine hits_region ?_
          refine sq (f_move rfl (lt rfl)) rfl rfl ?_
          refine sq (f_move rfl (lt rfl)) rfl rfl ?_
          refine sq (f_convI rfl us3 un33 (by decide : _ = (16 : Int)) (lt rfl)) rfl rfl ?_
          refine sq (f_bin rfl rfl (iT ((u64_in (by omega) : _ = ((n * 16 : Nat) : Int)))) (lt rfl)) rfl rfl ?_
          refine sq (f_assign rfl (lt rfl)) rfl rfl ?_
          refine hits_nil ?_
          refine to_next ?_
          refine hits_seq ?_
          refine hits_region ?_
          refine sq (f_move rfl (lt rfl)) rfl rfl ?_
          refine sq (f_move rfl (lt rfl)) rfl rfl ?_
          refine sq (f_convI rfl us5 un33 (u64_in (by omega)) (lt rfl)) rfl rfl ?_
          refine sq (f_bin rfl rfl (iT ((u64_in hm : _ = ((n * 16 + (c.toNat - 48) : Nat) : Int)))) (lt rfl)) rfl rfl ?_
          refine sq (f_assign rfl (lt rfl)) rfl rfl ?_
          refine hits_nil ?_
          refine to_next ?_
          refine hits_seq ?_
          refine hits_seq ?_
          refine hits_region ?_
          refine sq (f_move rfl (lt rfl)) rfl rfl ?_
          refine sq (f_move rfl (lt rfl)) rfl rfl ?_
          refine sq (f_bin rfl rfl (bT (decide_eq_false (by omega))) (lt rfl)) rfl rfl ?_
          refine sq (f_move rfl (lt rfl)) rfl rfl ?_
          refine sq_yes (f_move rfl (lt rfl)) rfl rfl rfl rfl (lt rfl) ?_
          refine sq_yes (f_move rfl (lt rfl)) rfl rfl rfl rfl (lt rfl) ?_
          refine sq_yes (f_bin rfl rfl (bT (decide_eq_false (by omega))) (lt rfl)) rfl rfl rfl rfl (lt rfl) ?_
          refine sq (f_pick rfl rfl (lt rfl)) rfl rfl ?_
          refine hits_nil ?_
          refine to_next ?_
          refine hits_cond rfl (fun c17 => absurd c17 Bool.false_ne_true) (fun c17 => ?_)
          refine hits_skip ?_
          refine to_next ?_
          refine hits_region ?_
          refine sq (f_move rfl (lt rfl)) rfl rfl ?_
          refine sq (f_assign rfl (lt rfl)) rfl rfl ?_
          refine hits_nil ?_
          refine in_next ?_
          refine to_next ?_
          refine hits_region ?_
          refine sq (f_bin rfl rfl (iT ((wrap_succ (by omega) : _ = ((i + 1 : Nat) : Int)))) (lt rfl)) rfl rfl ?_
          refine sq (f_move rfl (lt rfl)) rfl rfl ?_
          refine hits_nil ?_
          refine to_next ?_
          refine round_end (n * 16 + (c.toNat - 48), i + 1) ⟨by omega, hm, hJ.trans (by rw [hdrop, pu_go (dig_num h1 h2) hd hn])⟩ (by omega) ⟨rfl, rfl, rfl, rfl, rfl, rfl, rfl, rfl, rfl, trivial⟩ rfl
    · by_cases h2 : 97 ≤ c.toNat ||| 32 ∧ c.toNat ||| 32 ≤ 122
      · obtain ⟨h2, h3⟩ := h2
        have hn95 : c.toNat ≠ 95 := fun e => by rw [e] at h3; exact absurd h3 (by decide)
        refine hits_region ?_
        refine sq (f_move rfl (lt rfl)) rfl rfl ?_
        refine sq (f_bin rfl rfl (bT (beq_eq_false_iff_ne.mpr (by omega))) (lt rfl)) rfl rfl ?_
        refine sq (f_move rfl (lt rfl)) rfl rfl ?_
        refine sq_no rfl rfl rfl rfl rfl (lt rfl) (lt rfl) ?_
        refine sq (f_pick rfl rfl (lt rfl)) rfl rfl ?_
        refine sq (f_assign rfl (lt rfl)) rfl rfl ?_
        refine hits_nil ?_
        refine to_next ?_
        refine hits_cond rfl (fun c12 => absurd c12 Bool.false_ne_true) (fun c12 => ?_)
        refine hits_seq ?_
        by_cases h4 : 48 ≤ c.toNat
        · refine hits_region ?_
          refine sq (f_move rfl (lt rfl)) rfl rfl ?_
          refine sq (f_bin rfl rfl (bT (decide_eq_true (by omega))) (lt rfl)) rfl rfl ?_
          refine sq (f_move rfl (lt rfl)) rfl rfl ?_
          refine sq_yes (f_move rfl (lt rfl)) rfl rfl rfl rfl (lt rfl) ?_
          refine sq_yes (f_bin rfl rfl (bT (decide_eq_false (by omega))) (lt rfl)) rfl rfl rfl rfl (lt rfl) ?_
          refine sq (f_pick rfl rfl (lt rfl)) rfl rfl ?_
          refine sq (f_assign rfl (lt rfl)) rfl rfl ?_
          refine hits_nil ?_
          refine to_next ?_
          refine hits_cond rfl (fun c13 => absurd c13 Bool.false_ne_true) (fun c13 => ?_)
          refine hits_seq ?_
          refine hits_region ?_
          refine sq (f_move rfl (lt rfl)) rfl rfl ?_
          refine sq (f_call en115 rfl (low_c hc) (lt rfl)) rfl rfl ?_
          refine sq (f_bin rfl rfl (bT (decide_eq_true (by omega))) (lt rfl)) rfl rfl ?_
          refine sq (f_move rfl (lt rfl)) rfl rfl ?_
          refine sq_yes (f_move rfl (lt rfl)) rfl rfl rfl rfl (lt rfl) ?_
          refine sq_yes (f_call en115 rfl (low_c hc) (lt rfl)) rfl rfl rfl rfl (lt rfl) ?_
          refine sq_yes (f_bin rfl rfl (bT (decide_eq_true (by omega))) (lt rfl)) rfl rfl rfl rfl (lt rfl) ?_
          refine sq (f_pick rfl rfl (lt rfl)) rfl rfl ?_
          refine sq (f_assign rfl (lt rfl)) rfl rfl ?_
          refine hits_nil ?_
          refine to_next ?_
          refine hits_cond rfl (fun c14 => ?_) (fun c14 => absurd c14 Bool.false_ne_true.symm)
          refine hits_region ?_
          refine sq (f_move rfl (lt rfl)) rfl rfl ?_
          refine sq (f_call en115 rfl (low_c hc) (lt rfl)) rfl rfl ?_
          refine sq (f_bin rfl rfl (iT ((u8_sub ho (by omega) : _ = (((c.toNat ||| 32) - 97 : Nat) : Int)))) (lt rfl)) rfl rfl ?_
          refine sq (f_bin rfl rfl (iT (((u8_add (k := 10) (by omega)).trans (by omega) : _ = (((c.toNat ||| 32) - 87 : Nat) : Int)))) (lt rfl)) rfl rfl ?_
          refine sq (f_assign rfl (lt rfl)) rfl rfl ?_
          refine hits_nil ?_
          refine in_next ?_
          refine to_next ?_
          refine hits_seq ?_
          refine hits_seq ?_
          by_cases hd : 16 ≤ (c.toNat ||| 32) - 87
          · refine hits_region ?_
            refine sq (f_move rfl (lt rfl)) rfl rfl ?_
            refine sq (f_move rfl (lt rfl)) rfl rfl ?_
            refine sq (f_convI rfl us3 un5 (by decide : _ = (16 : Int)) (lt rfl)) rfl rfl ?_
            refine sq (f_bin rfl rfl (bT (decide_eq_true (by omega))) (lt rfl)) rfl rfl ?_
            refine hits_nil ?_
            refine to_next ?_
            refine hits_cond rfl (fun c15 => ?_) (fun c15 => absurd c15 Bool.false_ne_true.symm)
            refine hits_seq ?_
            refine hits_region ?_
            refine sq (f_mkIface rfl nif178 (lt rfl)) rfl rfl ?_
            refine sq (f_assign rfl (lt rfl)) rfl rfl ?_
            refine sq (f_assign rfl (lt rfl)) rfl rfl ?_
            refine hits_nil ?_
            refine to_next ?_
            refine hits_ret ?_
            refine to_ret ?_
            refine in_ret ?_
            refine to_ret ?_
            refine to_ret ?_
            refine in_ret ?_
            refine to_ret ?_
            exact hits_done (.inl rfl) rfl rfl (by rw [hJ, hdrop, pu_big (dig_let h1 h2 h3) hd]; rfl)
          · by_cases hn : 1152921504606846976 ≤ n
            · refine hits_region ?_
              refine sq (f_move rfl (lt rfl)) rfl rfl ?_
              refine sq (f_move rfl (lt rfl)) rfl rfl ?_
              refine sq (f_convI rfl us3 un5 (by decide : _ = (16 : Int)) (lt rfl)) rfl rfl ?_
              refine sq (f_bin rfl rfl (bT (decide_eq_false (by omega))) (lt rfl)) rfl rfl ?_
              refine hits_nil ?_
              refine to_next ?_
              refine hits_cond rfl (fun c15 => absurd c15 Bool.false_ne_true) (fun c15 => ?_)
              refine hits_skip ?_
              refine to_next ?_
              refine hits_seq ?_
              refine hits_seq ?_
              refine hits_region ?_
              refine sq (f_move rfl (lt rfl)) rfl rfl ?_
              refine sq (f_move rfl (lt rfl)) rfl rfl ?_
              refine sq (f_bin rfl rfl (bT (decide_eq_true (by omega))) (lt rfl)) rfl rfl ?_
              refine hits_nil ?_
              refine to_next ?_
              refine hits_cond rfl (fun c16 => ?_) (fun c16 => absurd c16 Bool.false_ne_true.symm)
              refine hits_seq ?_
              refine hits_region ?_
              refine sq (f_move rfl (lt rfl)) rfl rfl ?_
              refine sq (f_mkIface rfl nif178 (lt rfl)) rfl rfl ?_
              refine sq (f_assign rfl (lt rfl)) rfl rfl ?_
              refine sq (f_assign rfl (lt rfl)) rfl rfl ?_
              refine hits_nil ?_
              refine to_next ?_
              refine hits_ret ?_
              refine to_ret ?_
              refine in_ret ?_
              refine to_ret ?_
              refine to_ret ?_
              refine in_ret ?_
              refine to_ret ?_
              exact hits_done (.inl rfl) rfl rfl (by rw [hJ, hdrop, pu_rng (dig_let h1 h2 h3) hd hn]; rfl)
            · have hm : n * 16 + ((c.toNat ||| 32) - 87) < 18446744073709551616 := by omega
              refine hits_region ?_
              refine sq (f_move rfl (lt rfl)) rfl rfl ?_
              refine sq (f_move rfl (lt rfl)) rfl rfl ?_
              refine sq (f_convI rfl us3 un5 (by decide : _ = (16 : Int)) (lt rfl)) rfl rfl ?_
              refine sq (f_bin rfl rfl (bT (decide_eq_false (by omega))) (lt rfl)) rfl rfl ?_
              refine hits_nil ?_
              refine to_next ?_
              refine hits_cond rfl (fun c15 => absurd c15 Bool.false_ne_true) (fun c15 => ?_)
              refine hits_skip ?_
              refine to_next ?_
              refine hits_seq ?_
              refine hits_seq ?_
              refine hits_region ?_
              refine sq (f_move rfl (lt rfl)) rfl rfl ?_
              refine sq (f_move rfl (lt rfl)) rfl rfl ?_
              refine sq (f_bin rfl rfl (bT (decide_eq_false (by omega))) (lt rfl)) rfl rfl ?_
              refine hits_nil ?_
              refine to_next ?_
              refine hits_cond rfl (fun c16 => absurd c16 Bool.false_ne_true) (fun c16 => ?_)
              refine hits_skip ?_
              refine to_next ?_
              refine hits_seq ?_
              refine hits_region ?_
              refine sq (f_move rfl (lt rfl)) rfl rfl ?_
              refine sq (f_move rfl (lt rfl)) rfl rfl ?_
              refine sq (f_convI rfl us3 un33 (by decide : _ = (16 : Int)) (lt rfl)) rfl rfl ?_
              refine sq (f_bin rfl rfl (iT ((u64_in (by omega) : _ = ((n * 16 : Nat) : Int)))) (lt rfl)) rfl rfl ?_
              refine sq (f_assign rfl (lt rfl)) rfl rfl ?_
              refine hits_nil ?_
              refine to_next ?_
              refine hits_seq ?_
              refine hits_region ?_
              refine sq (f_move rfl (lt rfl)) rfl rfl ?_
              refine sq (f_move rfl (lt rfl)) rfl rfl ?_
              refine sq (f_convI rfl us5 un33 (u64_in (by omega)) (lt rfl)) rfl rfl ?_
              refine sq (f_bin rfl rfl (iT ((u64_in hm : _ = ((n * 16 + ((c.toNat ||| 32) - 87) : Nat) : Int)))) (lt rfl)) rfl rfl ?_
              refine sq (f_assign rfl (lt rfl)) rfl rfl ?_
              refine hits_nil ?_
              refine to_next ?_
              refine hits_seq ?_
              refine hits_seq ?_
              refine hits_region ?_
              refine sq (f_move rfl (lt rfl)) rfl rfl ?_
              refine sq (f_move rfl (lt rfl)) rfl rfl ?_
              refine sq (f_bin rfl rfl (bT (decide_eq_false (by omega))) (lt rfl)) rfl rfl ?_
              refine sq (f_move rfl (lt rfl)) rfl rfl ?_
              refine sq_yes (f_move rfl (lt rfl)) rfl rfl rfl rfl (lt rfl) ?_
              refine sq_yes (f_move rfl (lt rfl)) rfl rfl rfl rfl (lt rfl) ?_
              refine sq_yes (f_bin rfl rfl (bT (decide_eq_false (by omega))) (lt rfl)) rfl rfl rfl rfl (lt rfl) ?_
              refine sq (f_pick rfl rfl (lt rfl)) rfl rfl ?_
              refine hits_nil ?_
              refine to_next ?_
              refine hits_cond rfl (fun c17 => absurd c17 Bool.false_ne_true) (fun c17 => ?_)
              refine hits_skip ?_
              refine to_next ?_
              refine hits_region ?_
              refine sq (f_move rfl (lt rfl)) rfl rfl ?_
              refine sq (f_assign rfl (lt rfl)) rfl rfl ?_
              refine hits_nil ?_
              refine in_next ?_
              refine to_next ?_
              refine hits_region ?_
              refine sq (f_bin rfl rfl (iT ((wrap_succ (by omega) : _ = ((i + 1 : Nat) : Int)))) (lt rfl)) rfl rfl ?_
              refine sq (f_move rfl (lt rfl)) rfl rfl ?_
              refine hits_nil ?_
              refine to_next ?_
              refine round_end (n * 16 + ((c.toNat ||| 32) - 87), i + 1) ⟨by omega, hm, hJ.trans (by rw [hdrop, pu_go (dig_let h1 h2 h3) hd hn])⟩ (by omega) ⟨rfl, rfl, rfl, rfl, rfl, rfl, rfl, rfl, rfl, trivial⟩ rfl
        · refine hits_region ?_
          refine sq (f_move rfl (lt rfl)) rfl rfl ?_
          refine sq (f_bin rfl rfl (bT (decide_eq_false (by omega))) (lt rfl)) rfl rfl ?_
          refine sq (f_move rfl (lt rfl)) rfl rfl ?_
          refine sq_no rfl rfl rfl rfl rfl (lt rfl) (lt rfl) ?_
          refine sq_no rfl rfl rfl rfl rfl (lt rfl) (lt rfl) ?_
          refine sq (f_pick rfl rfl (lt rfl)) rfl rfl ?_
          refine sq (f_assign rfl (lt rfl)) rfl rfl ?_
          refine hits_nil ?_
          refine to_next ?_
          refine hits_cond rfl (fun c13 => absurd c13 Bool.false_ne_true) (fun c13 => ?_)
          refine hits_seq ?_
          refine hits_region ?_
          refine sq (f_move rfl (lt rfl)) rfl rfl ?_
          refine sq (f_call en115 rfl (low_c hc) (lt rfl)) rfl rfl ?_
          refine sq (f_bin rfl rfl (bT (decide_eq_true (by omega))) (lt rfl)) rfl rfl ?_
          refine sq (f_move rfl (lt rfl)) rfl rfl ?_
          refine sq_yes (f_move rfl (lt rfl)) rfl rfl rfl rfl (lt rfl) ?_
          refine sq_yes (f_call en115 rfl (low_c hc) (lt rfl)) rfl rfl rfl rfl (lt rfl) ?_
          refine sq_yes (f_bin rfl rfl (bT (decide_eq_true (by omega))) (lt rfl)) rfl rfl rfl rfl (lt rfl) ?_
          refine sq (f_pick rfl rfl (lt rfl)) rfl rfl ?_
          refine sq (f_assign rfl (lt rfl)) rfl rfl ?_
          refine hits_nil ?_
          refine to_next ?_
          refine hits_cond rfl (fun c14 => ?_) (fun c14 => absurd c14 Bool.false_ne_true.symm)
          refine hits_region ?_
          refine sq (f_move rfl (lt rfl)) rfl rfl ?_
          refine sq (f_call en115 rfl (low_c hc) (lt rfl)) rfl rfl ?_
          refine sq (f_bin rfl rfl (iT ((u8_sub ho (by omega) : _ = (((c.toNat ||| 32) - 97 : Nat) : Int)))) (lt rfl)) rfl rfl ?_
          refine sq (f_bin rfl rfl (iT (((u8_add (k := 10) (by omega)).trans (by omega) : _ = (((c.toNat ||| 32) - 87 : Nat) : Int)))) (lt rfl)) rfl rfl ?_
          refine sq (f_assign rfl (lt rfl)) rfl rfl ?_
          refine hits_nil ?_
          refine in_next ?_
          refine to_next ?_
          refine hits_seq ?_
          refine hits_seq ?_
          by_cases hd : 16 ≤ (c.toNat ||| 32) - 87
          · refine hits_region ?_
            refine sq (f_move rfl (lt rfl)) rfl rfl ?_
            refine sq (f_move rfl (lt rfl)) rfl rfl ?_
            refine sq (f_convI rfl us3 un5 (by decide : _ = (16 : Int)) (lt rfl)) rfl rfl ?_
            refine sq (f_bin rfl rfl (bT (decide_eq_true (by omega))) (lt rfl)) rfl rfl ?_
            refine hits_nil ?_
            refine to_next ?_
            refine hits_cond rfl (fun c15 => ?_) (fun c15 => absurd c15 Bool.false_ne_true.symm)
            refine hits_seq ?_
            refine hits_region ?_
            refine sq (f_mkIface rfl nif178 (lt rfl)) rfl rfl ?_
            refine sq (f_assign rfl (lt rfl)) rfl rfl ?_
            refine sq (f_assign rfl (lt rfl)) rfl rfl ?_
            refine hits_nil ?_
            refine to_next ?_
            refine hits_ret ?_
            refine to_ret ?_
            refine in_ret ?_
            refine to_ret ?_
            refine to_ret ?_
            refine in_ret ?_
            refine to_ret ?_
            exact hits_done (.inl rfl) rfl rfl (by rw [hJ, hdrop, pu_big (dig_let h1 h2 h3) hd]; rfl)
          · by_cases hn : 1152921504606846976 ≤ n
            · refine hits_region ?_
              refine sq (f_move rfl (lt rfl)) rfl rfl ?_
              refine sq (f_move rfl (lt rfl)) rfl rfl ?_
              refine sq (f_convI rfl us3 un5 (by decide : _ = (16 : Int)) (lt rfl)) rfl rfl ?_
              refine sq (f_bin rfl rfl (bT (decide_eq_false (by omega))) (lt rfl)) rfl rfl ?_
              refine hits_nil ?_
              refine to_next ?_
              refine hits_cond rfl (fun c15 => absurd c15 Bool.false_ne_true) (fun c15 => ?_)
              refine hits_skip ?_
              refine to_next ?_
              refine hits_seq ?_
              refine hits_seq ?_
              refine hits_region ?_
              refine sq (f_move rfl (lt rfl)) rfl rfl ?_
              refine sq (f_move rfl (lt rfl)) rfl rfl ?_
              refine sq (f_bin rfl rfl (bT (decide_eq_true (by omega))) (lt rfl)) rfl rfl ?_
              refine hits_nil ?_
              refine to_next ?_
              refine hits_cond rfl (fun c16 => ?_) (fun c16 => absurd c16 Bool.false_ne_true.symm)
              refine hits_seq ?_
              refine hits_region ?_
              refine sq (f_move rfl (lt rfl)) rfl rfl ?_
              refine sq (f_mkIface rfl nif178 (lt rfl)) rfl rfl ?_
              refine sq (f_assign rfl (lt rfl)) rfl rfl ?_
              refine sq (f_assign rfl (lt rfl)) rfl rfl ?_
              refine hits_nil ?_
              refine to_next ?_
              refine hits_ret ?_
              refine to_ret ?_
              refine in_ret ?_
              refine to_ret ?_
              refine to_ret ?_
              refine in_ret ?_
              refine to_ret ?_
              exact hits_done (.inl rfl) rfl rfl (by rw [hJ, hdrop, pu_rng (dig_let h1 h2 h3) hd hn]; rfl)
            · have hm : n * 16 + ((c.toNat ||| 32) - 87) < 18446744073709551616 := by omega
              refine hits_region ?_
              refine sq (f_move rfl (lt rfl)) rfl rfl ?_
              refine sq (f_move rfl (lt rfl)) rfl rfl ?_
              refine sq (f_convI rfl us3 un5 (by decide : _ = (16 : Int)) (lt rfl)) rfl rfl ?_
              refine sq (f_bin rfl rfl (bT (decide_eq_false (by omega))) (lt rfl)) rfl rfl ?_
              refine hits_nil ?_
              refine to_next ?_
              refine hits_cond rfl (fun c15 => absurd c15 Bool.false_ne_true) (fun c15 => ?_)
              refine hits_skip ?_
              refine to_next ?_
              refine hits_seq ?_
              refine hits_seq ?_
              refine hits_region ?_
              refine sq (f_move rfl (lt rfl)) rfl rfl ?_
              refine sq (f_move rfl (lt rfl)) rfl rfl ?_
              refine sq (f_bin rfl rfl (bT (decide_eq_false (by omega))) (lt rfl)) rfl rfl ?_
              refine hits_nil ?_
              refine to_next ?_
              refine hits_cond rfl (fun c16 => absurd c16 Bool.false_ne_true) (fun c16 => ?_)
              refine hits_skip ?_
              refine to_next ?_
              refine hits_seq ?_
              refine hits_region ?_
              refine sq (f_move rfl (lt rfl)) rfl rfl ?_
              refine sq (f_move rfl (lt rfl)) rfl rfl ?_
              refine sq (f_convI rfl us3 un33 (by decide : _ = (16 : Int)) (lt rfl)) rfl rfl ?_
              refine sq (f_bin rfl rfl (iT ((u64_in (by omega) : _ = ((n * 16 : Nat) : Int)))) (lt rfl)) rfl rfl ?_
              refine sq (f_assign rfl (lt rfl)) rfl rfl ?_
              refine hits_nil ?_
              refine to_next ?_
              refine hits_seq ?_
              refine hits_region ?_
              refine sq (f_move rfl (lt rfl)) rfl rfl ?_
              refine sq (f_move rfl (lt rfl)) rfl rfl ?_
              refine sq (f_convI rfl us5 un33 (u64_in (by omega)) (lt rfl)) rfl rfl ?_
              refine sq (f_bin rfl rfl (iT ((u64_in hm : _ = ((n * 16 + ((c.toNat ||| 32) - 87) : Nat) : Int)))) (lt rfl)) rfl rfl ?_
              refine sq (f_assign rfl (lt rfl)) rfl rfl ?_
              refine hits_nil ?_
              refine to_next ?_
              refine hits_seq ?_
              refine hits_seq ?_
              refine hits_region ?_
              refine sq (f_move rfl (lt rfl)) rfl rfl ?_
              refine sq (f_move rfl (lt rfl)) rfl rfl ?_
              refine sq (f_bin rfl rfl (bT (decide_eq_false (by omega))) (lt rfl)) rfl rfl ?_
              refine sq (f_move rfl (lt rfl)) rfl rfl ?_
              refine sq_yes (f_move rfl (lt rfl)) rfl rfl rfl rfl (lt rfl) ?_
              refine sq_yes (f_move rfl (lt rfl)) rfl rfl rfl rfl (lt rfl) ?_
              refine sq_yes (f_bin rfl rfl (bT (decide_eq_false (by omega))) (lt rfl)) rfl rfl rfl rfl (lt rfl) ?_
              refine sq (f_pick rfl rfl (lt rfl)) rfl rfl ?_
              refine hits_nil ?_
              refine to_next ?_
              refine hits_cond rfl (fun c17 => absurd c17 Bool.false_ne_true) (fun c17 => ?_)
              refine hits_skip ?_
              refine to_next ?_
              refine hits_region ?_
              refine sq (f_move rfl (lt rfl)) rfl rfl ?_
              refine sq (f_assign rfl (lt rfl)) rfl rfl ?_
              refine hits_nil ?_
              refine in_next ?_
              refine to_next ?_
              refine hits_region ?_
              refine sq (f_bin rfl rfl (iT ((wrap_succ (by omega) : _ = ((i + 1 : Nat) : Int)))) (lt rfl)) rfl rfl ?_
              refine sq (f_move rfl (lt rfl)) rfl rfl ?_
              refine hits_nil ?_
              refine to_next ?_
              refine round_end (n * 16 + ((c.toNat ||| 32) - 87), i + 1) ⟨by omega, hm, hJ.trans (by rw [hdrop, pu_go (dig_let h1 h2 h3) hd hn])⟩ (by omega) ⟨rfl, rfl, rfl, rfl, rfl, rfl, rfl, rfl, rfl, trivial⟩ rfl
      · by_cases h95 : c.toNat = 95
        · have e95 : ((c.toNat : Nat) : Int) = 95 := by omega
          refine hits_region ?_
          refine sq (f_move rfl (lt rfl)) rfl rfl ?_
          refine sq (f_bin rfl rfl (bT (beq_iff_eq.mpr e95)) (lt rfl)) rfl rfl ?_
          refine sq (f_move rfl (lt rfl)) rfl rfl ?_
          refine sq_yes (f_move rfl (lt rfl)) rfl rfl rfl rfl (lt rfl) ?_
          refine sq (f_pick rfl rfl (lt rfl)) rfl rfl ?_
          refine sq (f_assign rfl (lt rfl)) rfl rfl ?_
          refine hits_nil ?_
          refine to_next ?_
          refine hits_cond rfl (fun c12 => absurd c12 Bool.false_ne_true) (fun c12 => ?_)
          refine hits_seq ?_
          refine hits_region ?_
          refine sq (f_move rfl (lt rfl)) rfl rfl ?_
          refine sq (f_bin rfl rfl (bT (decide_eq_true (by omega))) (lt rfl)) rfl rfl ?_
          refine sq (f_move rfl (lt rfl)) rfl rfl ?_
          refine sq_yes (f_move rfl (lt rfl)) rfl rfl rfl rfl (lt rfl) ?_
          refine sq_yes (f_bin rfl rfl (bT (decide_eq_false (by omega))) (lt rfl)) rfl rfl rfl rfl (lt rfl) ?_
          refine sq (f_pick rfl rfl (lt rfl)) rfl rfl ?_
          refine sq (f_assign rfl (lt rfl)) rfl rfl ?_
          refine hits_nil ?_
          refine to_next ?_
          refine hits_cond rfl (fun c13 => absurd c13 Bool.false_ne_true) (fun c13 => ?_)
          refine hits_seq ?_
          refine hits_region ?_
          refine sq (f_move rfl (lt rfl)) rfl rfl ?_
          refine sq (f_call en115 rfl (low_c hc) (lt rfl)) rfl rfl ?_
          refine sq (f_bin rfl rfl (bT (decide_eq_true (by rw [h95]; decide))) (lt rfl)) rfl rfl ?_
          refine sq (f_move rfl (lt rfl)) rfl rfl ?_
          refine sq_yes (f_move rfl (lt rfl)) rfl rfl rfl rfl (lt rfl) ?_
          refine sq_yes (f_call en115 rfl (low_c hc) (lt rfl)) rfl rfl rfl rfl (lt rfl) ?_
          refine sq_yes (f_bin rfl rfl (bT (decide_eq_false (by rw [h95]; decide))) (lt rfl)) rfl rfl rfl rfl (lt rfl) ?_
          refine sq (f_pick rfl rfl (lt rfl)) rfl rfl ?_
          refine sq (f_assign rfl (lt rfl)) rfl rfl ?_
          refine hits_nil ?_
          refine to_next ?_
          refine hits_cond rfl (fun c14 => absurd c14 Bool.false_ne_true) (fun c14 => ?_)
          refine hits_seq ?_
          refine hits_region ?_
          refine sq (f_mkIface rfl nif178 (lt rfl)) rfl rfl ?_
          refine sq (f_assign rfl (lt rfl)) rfl rfl ?_
          refine sq (f_assign rfl (lt rfl)) rfl rfl ?_
          refine hits_nil ?_
          refine to_next ?_
          refine hits_ret ?_
          refine in_ret ?_
          refine to_ret ?_
          refine in_ret ?_
          refine to_ret ?_
          refine to_ret ?_
          refine in_ret ?_
          refine to_ret ?_
          exact hits_done (.inl rfl) rfl rfl (by rw [hJ, hdrop, pu_bad (dig_no h1 h2)]; rfl)
        · refine hits_region ?_
          refine sq (f_move rfl (lt rfl)) rfl rfl ?_
          refine sq (f_bin rfl rfl (bT (beq_eq_false_iff_ne.mpr (by omega))) (lt rfl)) rfl rfl ?_
          refine sq (f_move rfl (lt rfl)) rfl rfl ?_
          refine sq_no rfl rfl rfl rfl rfl (lt rfl) (lt rfl) ?_
          refine sq (f_pick rfl rfl (lt rfl)) rfl rfl ?_
          refine sq (f_assign rfl (lt rfl)) rfl rfl ?_
          refine hits_nil ?_
          refine to_next ?_
          refine hits_cond rfl (fun c12 => absurd c12 Bool.false_ne_true) (fun c12 => ?_)
          refine hits_seq ?_
          by_cases h4 : 48 ≤ c.toNat
          · refine hits_region ?_
            refine sq (f_move rfl (lt rfl)) rfl rfl ?_
            refine sq (f_bin rfl rfl (bT (decide_eq_true (by omega))) (lt rfl)) rfl rfl ?_
            refine sq (f_move rfl (lt rfl)) rfl rfl ?_
            refine sq_yes (f_move rfl (lt rfl)) rfl rfl rfl rfl (lt rfl) ?_
            refine sq_yes (f_bin rfl rfl (bT (decide_eq_false (by omega))) (lt rfl)) rfl rfl rfl rfl (lt rfl) ?_
            refine sq (f_pick rfl rfl (lt rfl)) rfl rfl ?_
            refine sq (f_assign rfl (lt rfl)) rfl rfl ?_
            refine hits_nil ?_
            refine to_next ?_
            refine hits_cond rfl (fun c13 => absurd c13 Bool.false_ne_true) (fun c13 => ?_)
            refine hits_seq ?_
            by_cases h5 : 97 ≤ c.toNat ||| 32
            · refine hits_region ?_
              refine sq (f_move rfl (lt rfl)) rfl rfl ?_
              refine sq (f_call en115 rfl (low_c hc) (lt rfl)) rfl rfl ?_
              refine sq (f_bin rfl rfl (bT (decide_eq_true (by omega))) (lt rfl)) rfl rfl ?_
              refine sq (f_move rfl (lt rfl)) rfl rfl ?_
              refine sq_yes (f_move rfl (lt rfl)) rfl rfl rfl rfl (lt rfl) ?_
              refine sq_yes (f_call en115 rfl (low_c hc) (lt rfl)) rfl rfl rfl rfl (lt rfl) ?_
              refine sq_yes (f_bin rfl rfl (bT (decide_eq_false (by omega))) (lt rfl)) rfl rfl rfl rfl (lt rfl) ?_
              refine sq (f_pick rfl rfl (lt rfl)) rfl rfl ?_
              refine sq (f_assign rfl (lt rfl)) rfl rfl ?_
              refine hits_nil ?_
              refine to_next ?_
              refine hits_cond rfl (fun c14 => absurd c14 Bool.false_ne_true) (fun c14 => ?_)
              refine hits_seq ?_
              refine hits_region ?_
              refine sq (f_mkIface rfl nif178 (lt rfl)) rfl rfl ?_
              refine sq (f_assign rfl (lt rfl)) rfl rfl ?_
              refine sq (f_assign rfl (lt rfl)) rfl rfl ?_
              refine hits_nil ?_
              refine to_next ?_
              refine hits_ret ?_
              refine in_ret ?_
              refine to_ret ?_
              refine in_ret ?_
              refine to_ret ?_
              refine to_ret ?_
              refine in_ret ?_
              refine to_ret ?_
              exact hits_done (.inl rfl) rfl rfl (by rw [hJ, hdrop, pu_bad (dig_no h1 h2)]; rfl)
            · refine hits_region ?_
              refine sq (f_move rfl (lt rfl)) rfl rfl ?_
              refine sq (f_call en115 rfl (low_c hc) (lt rfl)) rfl rfl ?_
              refine sq (f_bin rfl rfl (bT (decide_eq_false (by omega))) (lt rfl)) rfl rfl ?_
              refine sq (f_move rfl (lt rfl)) rfl rfl ?_
              refine sq_no rfl rfl rfl rfl rfl (lt rfl) (lt rfl) ?_
              refine sq_no rfl rfl rfl rfl rfl (lt rfl) (lt rfl) ?_
              refine sq_no rfl rfl rfl rfl rfl (lt rfl) (lt rfl) ?_
              refine sq (f_pick rfl rfl (lt rfl)) rfl rfl ?_
              refine sq (f_assign rfl (lt rfl)) rfl rfl ?_
              refine hits_nil ?_
              refine to_next ?_
              refine hits_cond rfl (fun c14 => absurd c14 Bool.false_ne_true) (fun c14 => ?_)
              refine hits_seq ?_
              refine hits_region ?_
              refine sq (f_mkIface rfl nif178 (lt rfl)) rfl rfl ?_
              refine sq (f_assign rfl (lt rfl)) rfl rfl ?_
              refine sq (f_assign rfl (lt rfl)) rfl rfl ?_
              refine hits_nil ?_
              refine to_next ?_
              refine hits_ret ?_
              refine in_ret ?_
              refine to_ret ?_
              refine in_ret ?_
              refine to_ret ?_
              refine to_ret ?_
              refine in_ret ?_
              refine to_ret ?_
              exact hits_done (.inl rfl) rfl rfl (by rw [hJ, hdrop, pu_bad (dig_no h1 h2)]; rfl)
          · refine hits_region ?_
            refine sq (f_move rfl (lt rfl)) rfl rfl ?_
            refine sq (f_bin rfl rfl (bT (decide_eq_false (by omega))) (lt rfl)) rfl rfl ?_
            refine sq (f_move rfl (lt rfl)) rfl rfl ?_
            refine sq_no rfl rfl rfl rfl rfl (lt rfl) (lt rfl) ?_
            refine sq_no rfl rfl rfl rfl rfl (lt rfl) (lt rfl) ?_
            refine sq (f_pick rfl rfl (lt rfl)) rfl rfl ?_
            refine sq (f_assign rfl (lt rfl)) rfl rfl ?_
            refine hits_nil ?_
            refine to_next ?_
            refine hits_cond rfl (fun c13 => absurd c13 Bool.false_ne_true) (fun c13 => ?_)
            refine hits_seq ?_
            by_cases h5 : 97 ≤ c.toNat ||| 32
            · refine hits_region ?_
              refine sq (f_move rfl (lt rfl)) rfl rfl ?_
              refine sq (f_call en115 rfl (low_c hc) (lt rfl)) rfl rfl ?_
              refine sq (f_bin rfl rfl (bT (decide_eq_true (by omega))) (lt rfl)) rfl rfl ?_
              refine sq (f_move rfl (lt rfl)) rfl rfl ?_
              refine sq_yes (f_move rfl (lt rfl)) rfl rfl rfl rfl (lt rfl) ?_
              refine sq_yes (f_call en115 rfl (low_c hc) (lt rfl)) rfl rfl rfl rfl (lt rfl) ?_
              refine sq_yes (f_bin rfl rfl (bT (decide_eq_false (by omega))) (lt rfl)) rfl rfl rfl rfl (lt rfl) ?_
              refine sq (f_pick rfl rfl (lt rfl)) rfl rfl ?_
              refine sq (f_assign rfl (lt rfl)) rfl rfl ?_
              refine hits_nil ?_
              refine to_next ?_
              refine hits_cond rfl (fun c14 => absurd c14 Bool.false_ne_true) (fun c14 => ?_)
              refine hits_seq ?_
              refine hits_region ?_
              refine sq (f_mkIface rfl nif178 (lt rfl)) rfl rfl ?_
              refine sq (f_assign rfl (lt rfl)) rfl rfl ?_
              refine sq (f_assign rfl (lt rfl)) rfl rfl ?_
              refine hits_nil ?_
              refine to_next ?_
              refine hits_ret ?_
              refine in_ret ?_
              refine to_ret ?_
              refine in_ret ?_
              refine to_ret ?_
              refine to_ret ?_
              refine in_ret ?_
              refine to_ret ?_
              exact hits_done (.inl rfl) rfl rfl (by rw [hJ, hdrop, pu_bad (dig_no h1 h2)]; rfl)
            · refine hits_region ?_
              refine sq (f_move rfl (lt rfl)) rfl rfl ?_
              refine sq (f_call en115 rfl (low_c hc) (lt rfl)) rfl rfl ?_
              refine sq (f_bin rfl rfl (bT (decide_eq_false (by omega))) (lt rfl)) rfl rfl ?_
              refine sq (f_move rfl (lt rfl)) rfl rfl ?_
              refine sq_no rfl rfl rfl rfl rfl (lt rfl) (lt rfl) ?_
              refine sq_no rfl rfl rfl rfl rfl (lt rfl) (lt rfl) ?_
              refine sq_no rfl rfl rfl rfl rfl (lt rfl) (lt rfl) ?_
              refine sq (f_pick rfl rfl (lt rfl)) rfl rfl ?_
              refine sq (f_assign rfl (lt rfl)) rfl rfl ?_
              refine hits_nil ?_
              refine to_next ?_
              refine hits_cond rfl (fun c14 => absurd c14 Bool.false_ne_true) (fun c14 => ?_)
              refine hits_seq ?_
              refine hits_region ?_
              refine sq (f_mkIface rfl nif178 (lt rfl)) rfl rfl ?_
              refine sq (f_assign rfl (lt rfl)) rfl rfl ?_
              refine sq (f_assign rfl (lt rfl)) rfl rfl ?_
              refine hits_nil ?_
              refine to_next ?_
              refine hits_ret ?_
              refine in_ret ?_
              refine to_ret ?_
              refine in_ret ?_
              refine to_ret ?_
              refine to_ret ?_
              refine in_ret ?_
              refine to_ret ?_
              exact hits_done (.inl rfl) rfl rfl (by rw [hJ, hdrop, pu_bad (dig_no h1 h2)]; rfl)
  · refine hits_exit ?_
    refine to_exit ?_
    refine to_exit ?_
    refine in_hit rfl ?_
    refine to_next ?_
    refine hits_seq ?_
    refine hits_seq ?_
    have hend : i = s.size := by have := of_decide_eq_false c11; rw [bytesL_length] at this; omega
    have hall : pu16 0 s.data.toList = (n, 0) := by rw [hJ, List.drop_eq_nil_of_le (by simp; omega)]; rfl
    refine hits_region ?_
    refine sq (f_move rfl (lt rfl)) rfl rfl ?_
    refine sq (f_move rfl (lt rfl)) rfl rfl ?_
    refine sq_no rfl rfl rfl rfl rfl (lt rfl) (lt rfl) ?_
    refine sq_no rfl rfl rfl rfl rfl (lt rfl) (lt rfl) ?_
    refine sq_no rfl rfl rfl rfl rfl (lt rfl) (lt rfl) ?_
    refine sq (f_pick rfl rfl (lt rfl)) rfl rfl ?_
    refine hits_nil ?_
    refine to_next ?_
    refine hits_cond rfl (fun c18 => absurd c18 Bool.false_ne_true) (fun c18 => ?_)
    refine hits_skip ?_
    refine to_next ?_
    refine hits_seq ?_
    refine hits_region ?_
    refine sq (f_move rfl (lt rfl)) rfl rfl ?_
    refine sq (f_assign rfl (lt rfl)) rfl rfl ?_
    refine sq (f_assign rfl (lt rfl)) rfl rfl ?_
    refine hits_nil ?_
    refine to_next ?_
    refine hits_ret ?_
    exact hits_done (.inl rfl) rfl rfl (by rw [hall]; rfl)
theorem pu_c (s : ByteArray) (hs : s.size ≤ 281474976710656) : CallsP Tryz.prog Lw 78 [.sc (.string s), .sc (.int .i64 16), .sc (.int .i64 64)] (puD (puOf s)) := by
  unfold puOf
  by_cases h : s.size = 0
  · rw [if_pos h]
    obtain rfl : s = ⟨#[]⟩ := by cases s; rename_i a; congr 1; exact Array.eq_empty_of_size_eq_zero h
    exact pu_none
  · rw [if_neg h]; exact pu_some s hs h
theorem pu_err (s : ByteArray) : (puOf s).2 = 0 ∨ (puOf s).2 = 1 ∨ (puOf s).2 = 2 := by
  unfold puOf
  split
  · exact .inr (.inr rfl)
  · generalize s.data.toList = l
    have : ∀ n, (pu16 n l).2 = 0 ∨ (pu16 n l).2 = 1 ∨ (pu16 n l).2 = 2 := by
      induction l with
      | nil => intro n; exact .inl rfl
      | cons c l ih =>
        intro n
        unfold pu16
        split
        · exact .inr (.inr rfl)
        · split
          · exact .inr (.inr rfl)
          · split
            · exact .inr (.inl rfl)
            · exact ih _
    exact this 0
set_option maxRecDepth 100000 in
theorem spu_ok (s : ByteArray) (hs : s.size ≤ 281474976710656) {n : Nat} (h : puOf s = (n, 0)) : CallsP Tryz.prog Lw 44 [.sc (.string s), .sc (.int .i64 16), .sc (.int .i64 64)] (.tup [.sc (.int .u64 (n : Int)), .sc .nilIface]) := by
  have hp := pu_c s hs
  rw [h] at hp
  refine callsP_of gs_lw Tryz.func44 rfl Tryz.ntmps44 rfl fun w0 S0 stab => ?_
  refine hits_seq ?_
  refine hits_region ?_
  refine sq (f_assign rfl (lt rfl)) rfl rfl ?_
  refine sq (f_assign rfl (lt rfl)) rfl rfl ?_
  refine hits_nil ?_
  refine to_next ?_
  refine hits_seq ?_
  refine hits_region ?_
  refine sq (f_move rfl (lt rfl)) rfl rfl ?_
  refine sq (f_move rfl (lt rfl)) rfl rfl ?_
  refine sq (f_move rfl (lt rfl)) rfl rfl ?_
  refine sq (f_call en78 rfl hp (lt rfl)) rfl rfl ?_
  refine sq (f_move rfl (lt rfl)) rfl rfl ?_
  refine sq (f_extract rfl rfl (lt rfl)) rfl rfl ?_
  refine sq (f_extract rfl rfl (lt rfl)) rfl rfl ?_
  refine sq (f_assign rfl (lt rfl)) rfl rfl ?_
  refine sq (f_assign rfl (lt rfl)) rfl rfl ?_
  refine hits_nil ?_
  refine to_next ?_
  refine hits_seq ?_
  refine hits_seq ?_
  refine hits_region ?_
  refine sq (f_move rfl (lt rfl)) rfl rfl ?_
  refine sq (f_ifNe0 rfl isf114 (lt rfl)) rfl rfl ?_
  refine hits_nil ?_
  refine to_next ?_
  refine hits_cond rfl (fun c0 => absurd c0 Bool.false_ne_true) (fun c0 => ?_)
  refine hits_skip ?_
  refine to_next ?_
  refine hits_seq ?_
  refine hits_region ?_
  refine sq (f_move rfl (lt rfl)) rfl rfl ?_
  refine sq (f_assign rfl (lt rfl)) rfl rfl ?_
  refine sq (f_assign rfl (lt rfl)) rfl rfl ?_
  refine hits_nil ?_
  refine to_next ?_
  refine hits_ret ?_
  exact hits_done (.inl rfl) rfl rfl rfl
set_option maxRecDepth 100000 in
theorem spu_err (s : ByteArray) (hs : s.size ≤ 281474976710656) {n k : Nat} (h : puOf s = (n, k + 1)) (hk : k + 1 = 1 ∨ k + 1 = 2) : CallsP Tryz.prog Lw 44 [.sc (.string s), .sc (.int .i64 16), .sc (.int .i64 64)] (.tup [.sc (.int .u64 (n : Int)), .any]) := by
  have hp := pu_c s hs
  rw [h] at hp
  refine callsP_of gs_lw Tryz.func44 rfl Tryz.ntmps44 rfl fun w0 S0 stab => ?_
  refine hits_seq ?_
  refine hits_region ?_
  refine sq (f_assign rfl (lt rfl)) rfl rfl ?_
  refine sq (f_assign rfl (lt rfl)) rfl rfl ?_
  refine hits_nil ?_
  refine to_next ?_
  refine hits_seq ?_
  refine hits_region ?_
  refine sq (f_move rfl (lt rfl)) rfl rfl ?_
  refine sq (f_move rfl (lt rfl)) rfl rfl ?_
  refine sq (f_move rfl (lt rfl)) rfl rfl ?_
  refine sq (f_call en78 rfl hp (lt rfl)) rfl rfl ?_
  refine sq (f_move rfl (lt rfl)) rfl rfl ?_
  refine sq (f_extract rfl rfl (lt rfl)) rfl rfl ?_
  refine sq (f_extract rfl rfl (lt rfl)) rfl rfl ?_
  refine sq (f_assign rfl (lt rfl)) rfl rfl ?_
  refine sq (f_assign rfl (lt rfl)) rfl rfl ?_
  refine hits_nil ?_
  refine to_next ?_
  refine hits_seq ?_
  refine hits_seq ?_
  refine hits_region ?_
  refine sq (f_move rfl (lt rfl)) rfl rfl ?_
  refine sq (f_ifNe rfl isf114 (lt rfl)) rfl rfl ?_
  refine hits_nil ?_
  refine to_next ?_
  refine hits_cond rfl (fun c0 => ?_) (fun c0 => absurd c0 Bool.false_ne_true.symm)
  refine hits_seq ?_
  refine hits_region ?_
  refine sq (f_move rfl (lt rfl)) rfl rfl ?_
  refine sq (f_move rfl (lt rfl)) rfl rfl ?_
  refine sq (f_move rfl (lt rfl)) rfl rfl ?_
  refine sq (f_move rfl (lt rfl)) rfl rfl ?_
  refine sq (f_move rfl (lt rfl)) rfl rfl ?_
  refine sq (f_call en79 rfl (toErr_c ⟨#[80, 97, 114, 115, 101, 85, 105, 110, 116]⟩ s 16 64 (k + 1) hk hs) (lt rfl)) rfl rfl ?_
  refine sq (f_assign rfl (lt rfl)) rfl rfl ?_
  refine sq (f_assign rfl (lt rfl)) rfl rfl ?_
  refine hits_nil ?_
  refine to_next ?_
  refine hits_ret ?_
  refine to_ret ?_
  exact hits_done (.inl rfl) rfl rfl rfl
theorem spu_c (s : ByteArray) (hs : s.size ≤ 281474976710656) : ∃ r, CallsP Tryz.prog Lw 44 [.sc (.string s), .sc (.int .i64 16), .sc (.int .i64 64)] (.tup [.sc (.int .u64 ((puOf s).1 : Int)), r]) := by
  cases h : puOf s with
  | mk n k =>
    cases k with
    | zero => exact ⟨_, spu_ok s hs h⟩
    | succ k => exact ⟨_, spu_err s hs h (by have := pu_err s; rw [h] at this; simp at this; omega)⟩
set_option maxRecDepth 100000 in
theorem parse_yes (s : ByteArray) (hs : s.size ≤ 281474976710656) (h : Yes s) : CallsP Tryz.prog Lw 43 [.sc (.string s)] (.tup [.agg [.sc (.int .i64 (pW s)), .sc (.int .u64 (pH s : Int)), .sc (.int .u64 (pL s : Int))], .sc (.int .i64 0)]) := by
  have hA := cutA_le s
  have hB := cutB_le s
  have hat := atoi_c (cutA s) (by omega)
  obtain ⟨r1, hr1⟩ := spu_c ((cutB s).extract ((cutB s).size - 16) (cutB s).size) (Nat.le_trans (ext_le _ _ _) (by omega))
  obtain ⟨r2, hr2⟩ := spu_c ((cutB s).extract 0 ((cutB s).size - 16)) (Nat.le_trans (ext_le _ _ _) (by omega))
  obtain ⟨w, h1, h2, h3, h4, h5⟩ := h
  have ht := text_c h2 h3 h4
  unfold bitD at ht
  rw [pV_hi, pV_lo, ← h1, h5] at ht
  refine callsP_of gs_lw Tryz.func43 rfl Tryz.ntmps43 rfl fun w0 S0 stab => ?_
  refine hits_seq ?_
  refine hits_region ?_
  refine sq (f_alloc zc35 (lt rfl)) rfl rfl ?_
  refine sq (f_assign rfl (lt rfl)) rfl rfl ?_
  refine hits_nil ?_
  refine to_next ?_
  refine hits_seq ?_
  refine hits_region ?_
  refine sq (f_move rfl (lt rfl)) rfl rfl ?_
  refine sq (f_call en76 rfl (cut_w s hs) (lt rfl)) rfl rfl ?_
  refine sq (f_move rfl (lt rfl)) rfl rfl ?_
  refine sq (f_extract rfl rfl (lt rfl)) rfl rfl ?_
  refine sq (f_extract rfl rfl (lt rfl)) rfl rfl ?_
  refine sq (f_extract rfl rfl (lt rfl)) rfl rfl ?_
  refine sq (f_assign rfl (lt rfl)) rfl rfl ?_
  refine sq (f_assign rfl (lt rfl)) rfl rfl ?_
  refine sq (f_assign rfl (lt rfl)) rfl rfl ?_
  refine hits_nil ?_
  refine to_next ?_
  refine hits_seq ?_
  refine hits_region ?_
  refine sq (f_alloc zc35 (lt rfl)) rfl rfl ?_
  refine hits_nil ?_
  refine to_next ?_
  refine hits_seq ?_
  refine hits_region ?_
  refine sq (f_move rfl (lt rfl)) rfl rfl ?_
  refine sq (f_call en77 rfl hat (lt rfl)) rfl rfl ?_
  refine sq (f_move rfl (lt rfl)) rfl rfl ?_
  refine sq (f_extract rfl rfl (lt rfl)) rfl rfl ?_
  refine sq (f_extract rfl rfl (lt rfl)) rfl rfl ?_
  refine sq (f_fieldAddr rfl kf35_0 rfl (lt rfl)) rfl rfl ?_
  refine sq (f_store kd3 rfl rfl rfl rfl rfl) rfl rfl ?_
  refine hits_nil ?_
  refine to_next ?_
  refine hits_seq ?_
  refine hits_region ?_
  refine sq (f_move rfl (lt rfl)) rfl rfl ?_
  refine sq (f_lenStr rfl un9 (lt rfl)) rfl rfl ?_
  refine sq (f_bin rfl rfl (iT ((IntWalk.i64_in _ (by omega) : _ = ((cutB s).size : Int) - 16))) (lt rfl)) rfl rfl ?_
  refine sq (f_maxI rfl rfl (by split <;> omega : _ = (((cutB s).size - 16 : Nat) : Int)) (lt rfl)) rfl rfl ?_
  refine sq (f_assign rfl (lt rfl)) rfl rfl ?_
  refine hits_nil ?_
  refine to_next ?_
  refine hits_seq ?_
  refine hits_region ?_
  refine sq (f_move rfl (lt rfl)) rfl rfl ?_
  refine sq (f_move rfl (lt rfl)) rfl rfl ?_
  refine sq (f_sliceStr rfl rfl rfl un9 (by omega) (by omega) (by omega) (lt rfl)) rfl rfl ?_
  refine sq (f_call en44 rfl hr1 (lt rfl)) rfl rfl ?_
  refine sq (f_move rfl (lt rfl)) rfl rfl ?_
  refine sq (f_extract rfl rfl (lt rfl)) rfl rfl ?_
  refine sq (f_extract rfl rfl (lt rfl)) rfl rfl ?_
  refine sq (f_fieldAddr rfl kf35_2 rfl (lt rfl)) rfl rfl ?_
  refine sq (f_store kd33 rfl rfl rfl rfl rfl) rfl rfl ?_
  refine hits_nil ?_
  refine to_next ?_
  refine hits_seq ?_
  refine hits_region ?_
  refine sq (f_move rfl (lt rfl)) rfl rfl ?_
  refine sq (f_move rfl (lt rfl)) rfl rfl ?_
  refine sq (f_sliceStr rfl rfl rfl un9 (by omega) (by omega) (by omega) (lt rfl)) rfl rfl ?_
  refine sq (f_call en44 rfl hr2 (lt rfl)) rfl rfl ?_
  refine sq (f_move rfl (lt rfl)) rfl rfl ?_
  refine sq (f_extract rfl rfl (lt rfl)) rfl rfl ?_
  refine sq (f_extract rfl rfl (lt rfl)) rfl rfl ?_
  refine sq (f_fieldAddr rfl kf35_1 rfl (lt rfl)) rfl rfl ?_
  refine sq (f_store kd33 rfl rfl rfl rfl rfl) rfl rfl ?_
  refine hits_nil ?_
  refine to_next ?_
  refine hits_seq ?_
  refine hits_seq ?_
  refine hits_region ?_
  refine sq (f_load kd35 rfl rfl (lt rfl)) rfl rfl ?_
  refine sq (f_call en18 rfl ht (lt rfl)) rfl rfl ?_
  refine sq (f_move rfl (lt rfl)) rfl rfl ?_
  refine sq (f_extract rfl rfl (lt rfl)) rfl rfl ?_
  refine sq (f_extract rfl rfl (lt rfl)) rfl rfl ?_
  refine sq (f_assign rfl (lt rfl)) rfl rfl ?_
  refine sq (f_assign rfl (lt rfl)) rfl rfl ?_
  refine hits_nil ?_
  refine to_next ?_
  refine hits_seq ?_
  refine hits_region ?_
  refine sq (f_move rfl (lt rfl)) rfl rfl ?_
  refine sq (f_bin rfl rfl (bT (b' := false) rfl) (lt rfl)) rfl rfl ?_
  refine sq (f_move rfl (lt rfl)) rfl rfl ?_
  refine sq_yes (f_move rfl (lt rfl)) rfl rfl rfl rfl (lt rfl) ?_
  refine sq_yes (f_move rfl (lt rfl)) rfl rfl rfl rfl (lt rfl) ?_
  refine sq_yes (f_bin rfl rfl (bT (str_ne0 rfl)) (lt rfl)) rfl rfl rfl rfl (lt rfl) ?_
  refine sq (f_pick rfl rfl (lt rfl)) rfl rfl ?_
  refine hits_nil ?_
  refine to_next ?_
  refine hits_cond rfl (fun c0 => absurd c0 Bool.false_ne_true) (fun c0 => ?_)
  refine hits_skip ?_
  refine to_next ?_
  refine hits_seq ?_
  refine hits_region ?_
  refine sq (f_load kd35 rfl rfl (lt rfl)) rfl rfl ?_
  refine sq (f_store kd35 rfl rfl rfl rfl rfl) rfl rfl ?_
  refine sq (f_assign rfl (lt rfl)) rfl rfl ?_
  refine hits_nil ?_
  refine to_next ?_
  refine hits_ret ?_
  exact hits_done (.inl rfl) rfl rfl rfl
set_option maxRecDepth 100000 in
theorem parse_bad (s : ByteArray) (hs : s.size ≤ 281474976710656) (h : chk (pW s) (pV s) = false) : CallsP Tryz.prog Lw 43 [.sc (.string s)] (.tup [.agg [.sc (.int .i64 0), .sc (.int .u64 0), .sc (.int .u64 0)], .sc (.int .i64 8)]) := by
  have hA := cutA_le s
  have hB := cutB_le s
  have hat := atoi_c (cutA s) (by omega)
  obtain ⟨r1, hr1⟩ := spu_c ((cutB s).extract ((cutB s).size - 16) (cutB s).size) (Nat.le_trans (ext_le _ _ _) (by omega))
  obtain ⟨r2, hr2⟩ := spu_c ((cutB s).extract 0 ((cutB s).size - 16)) (Nat.le_trans (ext_le _ _ _) (by omega))
  have ht := text_no (pV_lt s) h
  rw [pV_hi, pV_lo] at ht
  refine callsP_of gs_lw Tryz.func43 rfl Tryz.ntmps43 rfl fun w0 S0 stab => ?_
  refine hits_seq ?_
  refine hits_region ?_
  refine sq (f_alloc zc35 (lt rfl)) rfl rfl ?_
  refine sq (f_assign rfl (lt rfl)) rfl rfl ?_
  refine hits_nil ?_
  refine to_next ?_
  refine hits_seq ?_
  refine hits_region ?_
  refine sq (f_move rfl (lt rfl)) rfl rfl ?_
  refine sq (f_call en76 rfl (cut_w s hs) (lt rfl)) rfl rfl ?_
  refine sq (f_move rfl (lt rfl)) rfl rfl ?_
  refine sq (f_extract rfl rfl (lt rfl)) rfl rfl ?_
  refine sq (f_extract rfl rfl (lt rfl)) rfl rfl ?_
  refine sq (f_extract rfl rfl (lt rfl)) rfl rfl ?_
  refine sq (f_assign rfl (lt rfl)) rfl rfl ?_
  refine sq (f_assign rfl (lt rfl)) rfl rfl ?_
  refine sq (f_assign rfl (lt rfl)) rfl rfl ?_
  refine hits_nil ?_
  refine to_next ?_
  refine hits_seq ?_
  refine hits_region ?_
  refine sq (f_alloc zc35 (lt rfl)) rfl rfl ?_
  refine hits_nil ?_
  refine to_next ?_
  refine hits_seq ?_
  refine hits_region ?_
  refine sq (f_move rfl (lt rfl)) rfl rfl ?_
  refine sq (f_call en77 rfl hat (lt rfl)) rfl rfl ?_
  refine sq (f_move rfl (lt rfl)) rfl rfl ?_
  refine sq (f_extract rfl rfl (lt rfl)) rfl rfl ?_
  refine sq (f_extract rfl rfl (lt rfl)) rfl rfl ?_
  refine sq (f_fieldAddr rfl kf35_0 rfl (lt rfl)) rfl rfl ?_
  refine sq (f_store kd3 rfl rfl rfl rfl rfl) rfl rfl ?_
  refine hits_nil ?_
  refine to_next ?_
  refine hits_seq ?_
  refine hits_region ?_
  refine sq (f_move rfl (lt rfl)) rfl rfl ?_
  refine sq (f_lenStr rfl un9 (lt rfl)) rfl rfl ?_
  refine sq (f_bin rfl rfl (iT ((IntWalk.i64_in _ (by omega) : _ = ((cutB s).size : Int) - 16))) (lt rfl)) rfl rfl ?_
  refine sq (f_maxI rfl rfl (by split <;> omega : _ = (((cutB s).size - 16 : Nat) : Int)) (lt rfl)) rfl rfl ?_
  refine sq (f_assign rfl (lt rfl)) rfl rfl ?_
  refine hits_nil ?_
  refine to_next ?_
  refine hits_seq ?_
  refine hits_region ?_
  refine sq (f_move rfl (lt rfl)) rfl rfl ?_
  refine sq (f_move rfl (lt rfl)) rfl rfl ?_
  refine sq (f_sliceStr rfl rfl rfl un9 (by omega) (by omega) (by omega) (lt rfl)) rfl rfl ?_
  refine sq (f_call en44 rfl hr1 (lt rfl)) rfl rfl ?_
  refine sq (f_move rfl (lt rfl)) rfl rfl ?_
  refine sq (f_extract rfl rfl (lt rfl)) rfl rfl ?_
  refine sq (f_extract rfl rfl (lt rfl)) rfl rfl ?_
  refine sq (f_fieldAddr rfl kf35_2 rfl (lt rfl)) rfl rfl ?_
  refine sq (f_store kd33 rfl rfl rfl rfl rfl) rfl rfl ?_
  refine hits_nil ?_
  refine to_next ?_
  refine hits_seq ?_
  refine hits_region ?_
  refine sq (f_move rfl (lt rfl)) rfl rfl ?_
  refine sq (f_move rfl (lt rfl)) rfl rfl ?_
  refine sq (f_sliceStr rfl rfl rfl un9 (by omega) (by omega) (by omega) (lt rfl)) rfl rfl ?_
  refine sq (f_call en44 rfl hr2 (lt rfl)) rfl rfl ?_
  refine sq (f_move rfl (lt rfl)) rfl rfl ?_
  refine sq (f_extract rfl rfl (lt rfl)) rfl rfl ?_
  refine sq (f_extract rfl rfl (lt rfl)) rfl rfl ?_
  refine sq (f_fieldAddr rfl kf35_1 rfl (lt rfl)) rfl rfl ?_
  refine sq (f_store kd33 rfl rfl rfl rfl rfl) rfl rfl ?_
  refine hits_nil ?_
  refine to_next ?_
  refine hits_seq ?_
  refine hits_seq ?_
  refine hits_region ?_
  refine sq (f_load kd35 rfl rfl (lt rfl)) rfl rfl ?_
  refine sq (f_call en18 rfl ht (lt rfl)) rfl rfl ?_
  refine sq (f_move rfl (lt rfl)) rfl rfl ?_
  refine sq (f_extract rfl rfl (lt rfl)) rfl rfl ?_
  refine sq (f_extract rfl rfl (lt rfl)) rfl rfl ?_
  refine sq (f_assign rfl (lt rfl)) rfl rfl ?_
  refine sq (f_assign rfl (lt rfl)) rfl rfl ?_
  refine hits_nil ?_
  refine to_next ?_
  refine hits_seq ?_
  refine hits_region ?_
  refine sq (f_move rfl (lt rfl)) rfl rfl ?_
  refine sq (f_bin rfl rfl (bT (b' := true) rfl) (lt rfl)) rfl rfl ?_
  refine sq (f_move rfl (lt rfl)) rfl rfl ?_
  refine sq_no rfl rfl rfl rfl rfl (lt rfl) (lt rfl) ?_
  refine sq_no rfl rfl rfl rfl rfl (lt rfl) (lt rfl) ?_
  refine sq_no rfl rfl rfl rfl rfl (lt rfl) (lt rfl) ?_
  refine sq (f_pick rfl rfl (lt rfl)) rfl rfl ?_
  refine hits_nil ?_
  refine to_next ?_
  refine hits_cond rfl (fun c0 => ?_) (fun c0 => absurd c0 Bool.false_ne_true.symm)
  refine hits_seq ?_
  refine hits_region ?_
  refine sq (f_build bu35 rfl rfl (lt rfl)) rfl rfl ?_
  refine sq (f_store kd35 rfl rfl rfl rfl rfl) rfl rfl ?_
  refine sq (f_assign rfl (lt rfl)) rfl rfl ?_
  refine hits_nil ?_
  refine to_next ?_
  refine hits_ret ?_
  refine to_ret ?_
  exact hits_done (.inl rfl) rfl rfl rfl
set_option maxRecDepth 100000 in
theorem parse_ne (s : ByteArray) (hs : s.size ≤ 281474976710656) {w : Nat} (h1 : pW s = (w : Int)) (h2 : 1 ≤ w) (h3 : w ≤ 128) (h4 : pV s < 2 ^ w) (h5 : textB w (pV s) ≠ s) : CallsP Tryz.prog Lw 43 [.sc (.string s)] (.tup [.agg [.sc (.int .i64 0), .sc (.int .u64 0), .sc (.int .u64 0)], .sc (.int .i64 8)]) := by
  have hA := cutA_le s
  have hB := cutB_le s
  have hat := atoi_c (cutA s) (by omega)
  obtain ⟨r1, hr1⟩ := spu_c ((cutB s).extract ((cutB s).size - 16) (cutB s).size) (Nat.le_trans (ext_le _ _ _) (by omega))
  obtain ⟨r2, hr2⟩ := spu_c ((cutB s).extract 0 ((cutB s).size - 16)) (Nat.le_trans (ext_le _ _ _) (by omega))
  have ht := text_c h2 h3 h4
  unfold bitD at ht
  rw [pV_hi, pV_lo, ← h1] at ht
  refine callsP_of gs_lw Tryz.func43 rfl Tryz.ntmps43 rfl fun w0 S0 stab => ?_
  refine hits_seq ?_
  refine hits_region ?_
  refine sq (f_alloc zc35 (lt rfl)) rfl rfl ?_
  refine sq (f_assign rfl (lt rfl)) rfl rfl ?_
  refine hits_nil ?_
  refine to_next ?_
  refine hits_seq ?_
  refine hits_region ?_
  refine sq (f_move rfl (lt rfl)) rfl rfl ?_
  refine sq (f_call en76 rfl (cut_w s hs) (lt rfl)) rfl rfl ?_
  refine sq (f_move rfl (lt rfl)) rfl rfl ?_
  refine sq (f_extract rfl rfl (lt rfl)) rfl rfl ?_
  refine sq (f_extract rfl rfl (lt rfl)) rfl rfl ?_
  refine sq (f_extract rfl rfl (lt rfl)) rfl rfl ?_
  refine sq (f_assign rfl (lt rfl)) rfl rfl ?_
  refine sq (f_assign rfl (lt rfl)) rfl rfl ?_
  refine sq (f_assign rfl (lt rfl)) rfl rfl ?_
  refine hits_nil ?_
  refine to_next ?_
  refine hits_seq ?_
  refine hits_region ?_
  refine sq (f_alloc zc35 (lt rfl)) rfl rfl ?_
  refine hits_nil ?_
  refine to_next ?_
  refine hits_seq ?_
  refine hits_region ?_
  refine sq (f_move rfl (lt rfl)) rfl rfl ?_
  refine sq (f_call en77 rfl hat (lt rfl)) rfl rfl ?_
  refine sq (f_move rfl (lt rfl)) rfl rfl ?_
  refine sq (f_extract rfl rfl (lt rfl)) rfl rfl ?_
  refine sq (f_extract rfl rfl (lt rfl)) rfl rfl ?_
  refine sq (f_fieldAddr rfl kf35_0 rfl (lt rfl)) rfl rfl ?_
  refine sq (f_store kd3 rfl rfl rfl rfl rfl) rfl rfl ?_
  refine hits_nil ?_
  refine to_next ?_
  refine hits_seq ?_
  refine hits_region ?_
  refine sq (f_move rfl (lt rfl)) rfl rfl ?_
  refine sq (f_lenStr rfl un9 (lt rfl)) rfl rfl ?_
  refine sq (f_bin rfl rfl (iT ((IntWalk.i64_in _ (by omega) : _ = ((cutB s).size : Int) - 16))) (lt rfl)) rfl rfl ?_
  refine sq (f_maxI rfl rfl (by split <;> omega : _ = (((cutB s).size - 16 : Nat) : Int)) (lt rfl)) rfl rfl ?_
  refine sq (f_assign rfl (lt rfl)) rfl rfl ?_
  refine hits_nil ?_
  refine to_next ?_
  refine hits_seq ?_
  refine hits_region ?_
  refine sq (f_move rfl (lt rfl)) rfl rfl ?_
  refine sq (f_move rfl (lt rfl)) rfl rfl ?_
  refine sq (f_sliceStr rfl rfl rfl un9 (by omega) (by omega) (by omega) (lt rfl)) rfl rfl ?_
  refine sq (f_call en44 rfl hr1 (lt rfl)) rfl rfl ?_
  refine sq (f_move rfl (lt rfl)) rfl rfl ?_
  refine sq (f_extract rfl rfl (lt rfl)) rfl rfl ?_
  refine sq (f_extract rfl rfl (lt rfl)) rfl rfl ?_
  refine sq (f_fieldAddr rfl kf35_2 rfl (lt rfl)) rfl rfl ?_
  refine sq (f_store kd33 rfl rfl rfl rfl rfl) rfl rfl ?_
  refine hits_nil ?_
  refine to_next ?_
  refine hits_seq ?_
  refine hits_region ?_
  refine sq (f_move rfl (lt rfl)) rfl rfl ?_
  refine sq (f_move rfl (lt rfl)) rfl rfl ?_
  refine sq (f_sliceStr rfl rfl rfl un9 (by omega) (by omega) (by omega) (lt rfl)) rfl rfl ?_
  refine sq (f_call en44 rfl hr2 (lt rfl)) rfl rfl ?_
  refine sq (f_move rfl (lt rfl)) rfl rfl ?_
  refine sq (f_extract rfl rfl (lt rfl)) rfl rfl ?_
  refine sq (f_extract rfl rfl (lt rfl)) rfl rfl ?_
  refine sq (f_fieldAddr rfl kf35_1 rfl (lt rfl)) rfl rfl ?_
  refine sq (f_store kd33 rfl rfl rfl rfl rfl) rfl rfl ?_
  refine hits_nil ?_
  refine to_next ?_
  refine hits_seq ?_
  refine hits_seq ?_
  refine hits_region ?_
  refine sq (f_load kd35 rfl rfl (lt rfl)) rfl rfl ?_
  refine sq (f_call en18 rfl ht (lt rfl)) rfl rfl ?_
  refine sq (f_move rfl (lt rfl)) rfl rfl ?_
  refine sq (f_extract rfl rfl (lt rfl)) rfl rfl ?_
  refine sq (f_extract rfl rfl (lt rfl)) rfl rfl ?_
  refine sq (f_assign rfl (lt rfl)) rfl rfl ?_
  refine sq (f_assign rfl (lt rfl)) rfl rfl ?_
  refine hits_nil ?_
  refine to_next ?_
  refine hits_seq ?_
  refine hits_region ?_
  refine sq (f_move rfl (lt rfl)) rfl rfl ?_
  refine sq (f_bin rfl rfl (bT (b' := false) rfl) (lt rfl)) rfl rfl ?_
  refine sq (f_move rfl (lt rfl)) rfl rfl ?_
  refine sq_yes (f_move rfl (lt rfl)) rfl rfl rfl rfl (lt rfl) ?_
  refine sq_yes (f_move rfl (lt rfl)) rfl rfl rfl rfl (lt rfl) ?_
  refine sq_yes (f_bin rfl rfl (bT (str_ne h5)) (lt rfl)) rfl rfl rfl rfl (lt rfl) ?_
  refine sq (f_pick rfl rfl (lt rfl)) rfl rfl ?_
  refine hits_nil ?_
  refine to_next ?_
  refine hits_cond rfl (fun c0 => ?_) (fun c0 => absurd c0 Bool.false_ne_true.symm)
  refine hits_seq ?_
  refine hits_region ?_
  refine sq (f_build bu35 rfl rfl (lt rfl)) rfl rfl ?_
  refine sq (f_store kd35 rfl rfl rfl rfl rfl) rfl rfl ?_
  refine sq (f_assign rfl (lt rfl)) rfl rfl ?_
  refine hits_nil ?_
  refine to_next ?_
  refine hits_ret ?_
  refine to_ret ?_
  exact hits_done (.inl rfl) rfl rfl rfl
theorem parse_no (s : ByteArray) (hs : s.size ≤ 281474976710656) (h : ¬ Yes s) : CallsP Tryz.prog Lw 43 [.sc (.string s)] (.tup [.agg [.sc (.int .i64 0), .sc (.int .u64 0), .sc (.int .u64 0)], .sc (.int .i64 8)]) := by
  cases hc : chk (pW s) (pV s)
  · exact parse_bad s hs hc
  · obtain ⟨h1, h2, h3⟩ := of_decide_eq_true hc
    have e : pW s = (((pW s).toNat : Nat) : Int) := by omega
    exact parse_ne s hs e (by omega) (by omega) h3 fun h5 => h ⟨_, e, by omega, by omega, h3, h5⟩
end Go.Proofs.YtbgeejmhkmjfdaaGreatDoor.Ln
