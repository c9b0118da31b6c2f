/- Joined texts: AbLib, AbParse, AbRef, AbRefB, AbRefP, AbInv. -/
import Derived.Test.YthhlnghpbjmfpaaDoorAbMore
import Derived.Test.YthhlnghpbjmfpaaDoorAbCore
import Derived.Test.YthhlnghpbjmfpaaDoorShelf
import Derived.IntWalk
import Derived.Laws.Strings
import Derived.Lib.SmallJoins

namespace Go.Proofs.YthhlnghpbjmfpaaDoor.AbBits
open Go Go.RowKit Go.Ab Go.Proofs Go.Proofs.YthhlnghpbjmfpaaDoor Go.Proofs.YthhlnghpbjmfpaaDoor.PTryd Go.Proofs.YthhlnghpbjmfpaaDoor.PTrydFns Go.Proofs.YthhlnghpbjmfpaaDoor.BitsMath Go.Proofs.YthhlnghpbjmfpaaDoor.Press
set_option linter.unusedVariables false
set_option linter.unusedSimpArgs false
theorem nif106 : nif Tryd.prog 106 = true := by kernel_rfl
theorem en85 : enters Tryd.prog 85 = true := by kernel_rfl
theorem en71 : enters Tryd.prog 71 = true := by kernel_rfl
theorem en91 : enters Tryd.prog 91 = true := by kernel_rfl
theorem us9 : (Tryd.prog.underlying 9).isSome = true := by kernel_rfl
theorem un22 : Tryd.prog.underlying 22 = some (.int .u64) := by kernel_rfl
theorem us5 : (Tryd.prog.underlying 5).isSome = true := by kernel_rfl
theorem en92 : enters Tryd.prog 92 = true := by kernel_rfl
theorem isf73 : Tryd.prog.isIface 73 = true := by kernel_rfl
theorem en74 : enters Tryd.prog 74 = true := by kernel_rfl
theorem en73 : enters Tryd.prog 73 = true := by kernel_rfl
/-- The library's two error variables: something is there. -/
def ErrAt (w : World) (g : Nat) : Prop := ∃ ev, w.cell? ⟨g, 0, none⟩ = some ev ∧ (ev = .nilIface ∨ ∃ te pe, ev = .iface te pe)
structure Errs (w : World) : Prop where
  tabs : Tabs w
  syn : ErrAt w 2
  rng : ErrAt w 3
theorem errAt_below {w w' : World} {g : Nat} (h : ErrAt w g) (hb : Below w.heap.size w w') : ErrAt w' g := by
  obtain ⟨ev, h1, h2⟩ := h
  have hlt : g < w.heap.size := by
    rcases Nat.lt_or_ge g w.heap.size with q | q
    · exact q
    · simp [World.cell?, Array.getElem?_eq_none q] at h1
  exact ⟨ev, (hb.cell (p := ⟨g, 0, none⟩) hlt).trans h1, h2⟩
theorem gs_errs : GS Errs := fun _ _ h hb => ⟨h.tabs.below hb, errAt_below h.syn hb, errAt_below h.rng hb⟩
theorem up {f : FuncId} {args : List D} {r : D} (h : CallsP Tryd.prog Tabs f args r) : CallsP Tryd.prog Errs f args r := fun S w us hg => h S w us hg.tabs
/-- A contract whose result's second part is of no account. -/
theorem lift_any {Γ : World → Prop} {f : FuncId} {args : List D} {vs : List Value} {n : Value} (ha : plainVs args = some vs)
    (h : ∀ w, Γ w → Calls Tryd.prog f ⟨vs⟩ w fun e w' => ∃ u, e = .returned (.tuple #[n, u]) ∧ u.oneCell' = true ∧ Below w.heap.size w w') : CallsP Tryd.prog Γ f args (.tup [.sc n, .any]) := by
  intro S w us hg hS hus
  obtain rfl := rels_plain ha hus
  refine (h w hg).mono ?_
  rintro e w' ⟨u, he, h1, hb⟩
  exact ⟨_, S, he, .tup (.cons (.sc _) (.cons (.any h1) .nil)), Stab.le.refl _, hb, fun _ _ _ q => .inl q⟩
theorem lift_any1 {Γ : World → Prop} {f : FuncId} {args : List D} {vs : List Value} (ha : plainVs args = some vs)
    (h : ∀ w, Γ w → Calls Tryd.prog f ⟨vs⟩ w fun e w' => ∃ u, e = .returned u ∧ u.oneCell' = true ∧ Below w.heap.size w w') : CallsP Tryd.prog Γ f args .any := by
  intro S w us hg hS hus
  obtain rfl := rels_plain ha hus
  refine (h w hg).mono ?_
  rintro e w' ⟨u, he, h1, hb⟩
  exact ⟨_, S, he, .any h1, Stab.le.refl _, hb, fun _ _ _ q => .inl q⟩
/-- What strconv.Atoi's number is, of any text. -/
def atoiN (s : ByteArray) : Int := match Lib.atoiAll s.data.toList with | .ok v => v | .syntax => 0 | .range => Lib.atoiSat s.data.toList
theorem old_or {w w' : World} {s : ByteArray} (h : w' = w ∨ ∃ t, w' = Lib.bytesWorld w 5 t) : Below w.heap.size w w' := by
  rcases h with rfl | ⟨t, rfl⟩
  · exact Below.refl _ _
  · exact Lib.bytesWorld_below _ _ _
theorem atoi_c (s : ByteArray) (hs : s.size ≤ 281474976710656) : CallsP Tryd.prog Errs 37 [.sc (.string s)] (.tup [.sc (.int .i64 (atoiN s)), .any]) := by
  refine lift_any rfl fun w hg => ?_
  unfold atoiN
  obtain ⟨ev, e1, e2⟩ := hg.syn
  obtain ⟨ew, r1, r2⟩ := hg.rng
  split
  · rename_i v h
    exact (Tryd.strconv_Atoi_ok s (by omega) v h w).mono fun e w' q => ⟨_, q.1, rfl, old_or (s := s) q.2⟩
  · rename_i h
    exact (Tryd.strconv_Atoi_syntax s hs h ev w e1 e2).mono fun e w' ⟨N, q1, _, _, q2⟩ => ⟨_, q1, rfl, q2⟩
  · rename_i h
    exact (Tryd.strconv_Atoi_range s hs h ew w r1 r2).mono fun e w' ⟨N, q1, _, _, q2⟩ => ⟨_, q1, rfl, q2⟩
theorem toErr_c (fn s : ByteArray) (b c : Int) (k : Nat) (hk : k = 1 ∨ k = 2) (hs : s.size ≤ 281474976710656) : CallsP Tryd.prog Errs 73 [.sc (.string fn), .sc (.string s), .sc (.int .i64 b), .sc (.int .i64 c), .sc (.iface 106 (.int .i64 k))] .any := by
  refine lift_any1 rfl fun w hg => ?_
  obtain ⟨ev, e1, e2⟩ := hg.syn
  obtain ⟨ew, r1, r2⟩ := hg.rng
  rcases hk with rfl | rfl
  · exact (Tryd.strconv_toError_range fn s b c ew w hs r1 r2).mono fun e w' ⟨N, q1, _, _, q2⟩ => ⟨_, q1, rfl, q2⟩
  · exact (Tryd.strconv_toError_syntax fn s b c ev w hs e1 e2).mono fun e w' ⟨N, q1, _, _, q2⟩ => ⟨_, q1, rfl, q2⟩
theorem idx_c (s : ByteArray) : CallsP Tryd.prog Errs 85 [.sc (.string s), .sc (.string ⟨#[119]⟩)] (.sc (.int .i64 (Lib.indexByte s.data.toList 119))) :=
  lift rfl rfl fun w _ => (Tryd.stringslite_Index_one s 119 w).mono fun e w' q => ⟨q.1, by rw [q.2]; exact Below.refl _ _⟩
theorem idx_lt : ∀ (l : List UInt8) (c : UInt8), Lib.indexByte l c < (l.length : Int) ∨ (l = [] ∧ Lib.indexByte l c = -1)
  | [], c => .inr ⟨rfl, rfl⟩
  | b :: l, c => by
    left
    unfold Lib.indexByte
    have := idx_lt l c
    split
    · simp <;> omega
    · split
      · simp <;> omega
      · rcases this with h | ⟨rfl, h⟩
        · simp <;> omega
        · simp [Lib.indexByte] at *
theorem idx_le (s : ByteArray) (c : UInt8) (h : 0 ≤ Lib.indexByte s.data.toList c) : Lib.indexByte s.data.toList c < (s.size : Int) := by
  rcases idx_lt s.data.toList c with q | ⟨_, q⟩
  · simpa using q
  · omega
/-- strings.Cut at the letter w. -/
def cutA (s : ByteArray) : ByteArray := if 0 ≤ Lib.indexByte s.data.toList 119 then s.extract 0 (Lib.indexByte s.data.toList 119).toNat else s
def cutB (s : ByteArray) : ByteArray := if 0 ≤ Lib.indexByte s.data.toList 119 then s.extract ((Lib.indexByte s.data.toList 119).toNat + 1) s.size else ⟨#[]⟩
def cutD (s : ByteArray) : D := .tup [.sc (.string (cutA s)), .sc (.string (cutB s)), .sc (.bool (decide (0 ≤ Lib.indexByte s.data.toList 119)))]
/-- A digit's worth, below 36; none: it is no digit. -/
def dig (c : Nat) : Option Nat := if 48 ≤ c ∧ c ≤ 57 then some (c - 48) else if 97 ≤ c ||| 32 ∧ c ||| 32 ≤ 122 then some ((c ||| 32) - 87) else none
/-- strconv.ParseUint at base 16, 64 bits, behind its test for the empty text: the number and the error's number. -/
def pu16 : Nat → List UInt8 → Nat × Nat
  | n, [] => (n, 0)
  | n, c :: l => match dig c.toNat with
    | none => (0, 2)
    | some d => if 16 ≤ d then (0, 2) else if 1152921504606846976 ≤ n then (18446744073709551615, 1) else pu16 (n * 16 + d) l
def puOf (s : ByteArray) : Nat × Nat := if s.size = 0 then (0, 2) else pu16 0 s.data.toList
theorem pu_bad {n : Nat} {c : UInt8} {l : List UInt8} (h : dig c.toNat = none) : pu16 n (c :: l) = (0, 2) := by simp [pu16, h]
theorem pu_big {n d : Nat} {c : UInt8} {l : List UInt8} (h : dig c.toNat = some d) (hd : 16 ≤ d) : pu16 n (c :: l) = (0, 2) := by simp [pu16, h, hd]
theorem pu_rng {n d : Nat} {c : UInt8} {l : List UInt8} (h : dig c.toNat = some d) (hd : ¬ 16 ≤ d) (hn : 1152921504606846976 ≤ n) : pu16 n (c :: l) = (18446744073709551615, 1) := by simp [pu16, h, hd, hn]
theorem pu_go {n d : Nat} {c : UInt8} {l : List UInt8} (h : dig c.toNat = some d) (hd : ¬ 16 ≤ d) (hn : ¬ 1152921504606846976 ≤ n) : pu16 n (c :: l) = pu16 (n * 16 + d) l := by simp [pu16, h, hd, hn]
def errV : Nat → Value
  | 0 => .nilIface
  | k + 1 => .iface 106 (.int .i64 ((k + 1 : Nat) : Int))
def puD (r : Nat × Nat) : D := .tup [.sc (.int .u64 (r.1 : Int)), .sc (errV r.2)]
theorem low_is {c : Nat} (h : c < 256) : Go.bits .or .u8 (c : Int) 32 = ((c ||| 32 : Nat) : Int) := (bits_nat .u8 8 (by decide) (fun n h0 h1 => by simp [IntKind.wrap, IntKind.bits, IntKind.signed]; omega) c 32 h (by decide)).2
theorem u8_in {n : Nat} (h : n < 256) : IntKind.u8.wrap (n : Int) = n := by simp [IntKind.wrap, IntKind.bits, IntKind.signed]; omega
theorem u8_sub {c k : Nat} (h : c < 256) (hk : k ≤ c) : IntKind.u8.wrap ((c : Int) - k) = ((c - k : Nat) : Int) := by simp [IntKind.wrap, IntKind.bits, IntKind.signed]; omega
theorem u8_add {c k : Nat} (h : c + k < 256) : IntKind.u8.wrap ((c : Int) + k) = ((c + k : Nat) : Int) := by simp [IntKind.wrap, IntKind.bits, IntKind.signed]; omega
theorem u64_in {n : Nat} (h : n < 18446744073709551616) : IntKind.u64.wrap (n : Int) = n := by rw [wrap_u64]; omega
theorem str_beq (s t : ByteArray) : (s.toList == t.toList) = decide (s = t) := by
  rw [ByteArray.toList_eq, ByteArray.toList_eq]
  by_cases h : s = t
  · subst h; simp
  · simp only [h, decide_false, beq_eq_false_iff_ne, ne_eq]
    intro q; apply h
    cases s; cases t
    congr 1
    exact Array.toList_inj.mp q
theorem dig_num {c : Nat} (h : 48 ≤ c) (h' : c ≤ 57) : dig c = some (c - 48) := if_pos ⟨h, h'⟩
theorem dig_let {c : Nat} (h : ¬ (48 ≤ c ∧ c ≤ 57)) (h1 : 97 ≤ c ||| 32) (h2 : c ||| 32 ≤ 122) : dig c = some ((c ||| 32) - 87) := by rw [dig, if_neg h, if_pos ⟨h1, h2⟩]
theorem dig_no {c : Nat} (h : ¬ (48 ≤ c ∧ c ≤ 57)) (h1 : ¬ (97 ≤ c ||| 32 ∧ c ||| 32 ≤ 122)) : dig c = none := by rw [dig, if_neg h, if_neg h1]
theorem or_lt {c : Nat} (h : c < 256) : c ||| 32 < 256 := Nat.or_lt_two_pow (n := 8) h (by decide)

set_option maxRecDepth 100000 in
theorem lcut_w (s : ByteArray) (hs : s.size ≤ 281474976710656) : CallsP Tryd.prog Errs 71 [.sc (.string s), .sc (.string ⟨#[119]⟩)] (cutD s) := by
  have hlt := idx_le s 119
  refine callsP_of gs_errs Tryd.func71 rfl Tryd.ntmps71 rfl fun w0 S0 stab => ?_
  refine hits_seq ?_
  refine hits_region ?_
  refine sq (f_assign rfl (lt rfl)) rfl rfl ?_
  refine sq (f_assign rfl (lt rfl)) rfl rfl ?_
  refine sq (f_assign rfl (lt rfl)) rfl rfl ?_
  refine hits_nil ?_
  refine to_next ?_
  refine hits_seq ?_
  refine hits_seq ?_
  refine hits_region ?_
  refine sq (f_move rfl (lt rfl)) rfl rfl ?_
  refine sq (f_move rfl (lt rfl)) rfl rfl ?_
  refine sq (f_call en85 rfl (idx_c s) (lt rfl)) rfl rfl ?_
  refine sq (f_assign rfl (lt rfl)) rfl rfl ?_
  refine hits_nil ?_
  refine to_next ?_
  refine hits_seq ?_
  by_cases h : 0 ≤ Lib.indexByte s.data.toList 119
  · have hl := hlt h
    refine hits_region ?_
    refine sq (f_move rfl (lt rfl)) rfl rfl ?_
    refine sq (f_bin rfl rfl (bT (decide_eq_true h)) (lt rfl)) rfl rfl ?_
    refine hits_nil ?_
    refine to_next ?_
    refine hits_cond rfl (fun c0 => ?_) (fun c0 => ?_)
    case refine_2 => exact absurd c0 Bool.false_ne_true.symm
    case refine_1 =>
      refine hits_seq ?_
      refine hits_drawn mixed ?_
      refine dq (f_move rfl (lt rfl)) rfl rfl ?_
      refine dq (f_move rfl (lt rfl)) rfl rfl ?_
      refine dq (f_sliceStr rfl rfl rfl un9 (Int.le_refl 0) h (Int.le_of_lt hl) (lt rfl)) rfl rfl ?_
      refine dq (f_move rfl (lt rfl)) rfl rfl ?_
      refine dq (f_move rfl (lt rfl)) rfl rfl ?_
      refine dq (f_move rfl (lt rfl)) rfl rfl ?_
      refine dq (f_lenStr rfl un9 (lt rfl)) rfl rfl ?_
      refine dq (f_bin rfl rfl (iT ((IntWalk.i64_in _ (by omega) : _ = Lib.indexByte s.data.toList 119 + 1))) (lt rfl)) rfl rfl ?_
      refine dq (f_sliceStr rfl rfl rfl un9 (by omega) (by omega) (Int.le_refl _) (lt rfl)) rfl rfl ?_
      refine dq (f_assign rfl (lt rfl)) rfl rfl ?_
      refine dq (f_assign rfl (lt rfl)) rfl rfl ?_
      refine dq (f_assign rfl (lt rfl)) rfl rfl ?_
      refine dq_nil rfl ?_
      refine to_next ?_
      refine hits_ret ?_
      refine to_ret ?_
      exact hits_done (.inl rfl) rfl rfl (by rw [cutD, cutA, cutB, if_pos h, if_pos h, decide_eq_true h, show (Lib.indexByte s.data.toList 119).toNat + 1 = (Lib.indexByte s.data.toList 119 + 1).toNat from by omega]; rfl)
  · refine hits_region ?_
    refine sq (f_move rfl (lt rfl)) rfl rfl ?_
    refine sq (f_bin rfl rfl (bT (decide_eq_false h)) (lt rfl)) rfl rfl ?_
    refine hits_nil ?_
    refine to_next ?_
    refine hits_cond rfl (fun c0 => ?_) (fun c0 => ?_)
    case refine_1 => exact absurd c0 Bool.false_ne_true
    case refine_2 =>
      refine hits_skip ?_
      refine to_next ?_
      refine hits_seq ?_
      refine hits_region ?_
      refine sq (f_move rfl (lt rfl)) rfl rfl ?_
      refine sq (f_assign rfl (lt rfl)) rfl rfl ?_
      refine sq (f_assign rfl (lt rfl)) rfl rfl ?_
      refine sq (f_assign rfl (lt rfl)) rfl rfl ?_
      refine hits_nil ?_
      refine to_next ?_
      refine hits_ret ?_
      exact hits_done (.inl rfl) rfl rfl (by rw [cutD, cutA, cutB, if_neg h, if_neg h, decide_eq_false h]; rfl)

set_option maxRecDepth 100000 in
theorem cut_w (s : ByteArray) (hs : s.size ≤ 281474976710656) : CallsP Tryd.prog Errs 36 [.sc (.string s), .sc (.string ⟨#[119]⟩)] (cutD s) := by
  refine callsP_of gs_errs Tryd.func36 rfl Tryd.ntmps36 rfl fun w0 S0 stab => ?_
  refine hits_seq ?_
  refine hits_region ?_
  refine sq (f_assign rfl (lt rfl)) rfl rfl ?_
  refine sq (f_assign rfl (lt rfl)) rfl rfl ?_
  refine sq (f_assign rfl (lt rfl)) rfl rfl ?_
  refine hits_nil ?_
  refine to_next ?_
  refine hits_seq ?_
  refine hits_region ?_
  refine sq (f_move rfl (lt rfl)) rfl rfl ?_
  refine sq (f_move rfl (lt rfl)) rfl rfl ?_
  refine sq (f_call en71 rfl (lcut_w s hs) (lt rfl)) rfl rfl ?_
  refine sq (f_extract rfl rfl (lt rfl)) rfl rfl ?_
  refine sq (f_extract rfl rfl (lt rfl)) rfl rfl ?_
  refine sq (f_extract rfl rfl (lt rfl)) rfl rfl ?_
  refine sq (f_assign rfl (lt rfl)) rfl rfl ?_
  refine sq (f_assign rfl (lt rfl)) rfl rfl ?_
  refine sq (f_assign rfl (lt rfl)) rfl rfl ?_
  refine hits_nil ?_
  refine to_next ?_
  refine hits_ret ?_
  exact hits_done (.inl rfl) rfl rfl rfl

set_option maxRecDepth 100000 in
theorem low_c {c : Nat} (h : c < 256) : CallsP Tryd.prog Errs 91 [.sc (.int .u8 (c : Int))] (.sc (.int .u8 ((c ||| 32 : Nat) : Int))) := by
  refine callsP_of gs_errs Tryd.func91 rfl Tryd.ntmps91 rfl fun w0 S0 stab => ?_
  refine hits_seq ?_
  refine hits_region ?_
  refine sq (f_assign rfl (lt rfl)) rfl rfl ?_
  refine hits_nil ?_
  refine to_next ?_
  refine hits_seq ?_
  refine hits_region ?_
  refine sq (f_move rfl (lt rfl)) rfl rfl ?_
  refine sq (f_bin rfl rfl (iT (low_is h)) (lt rfl)) rfl rfl ?_
  refine sq (f_assign rfl (lt rfl)) rfl rfl ?_
  refine hits_nil ?_
  refine to_next ?_
  refine hits_ret ?_
  exact hits_done (.inl rfl) rfl rfl rfl

set_option maxRecDepth 100000 in
theorem pu_none : CallsP Tryd.prog Errs 74 [.sc (.string ⟨#[]⟩), .sc (.int .i64 16), .sc (.int .i64 64)] (puD (0, 2)) := by
  refine callsP_of gs_errs Tryd.func74 rfl Tryd.ntmps74 rfl fun w0 S0 stab => ?_
  refine hits_seq ?_
  refine hits_region ?_
  refine sq (f_assign rfl (lt rfl)) rfl rfl ?_
  refine sq (f_assign rfl (lt rfl)) rfl rfl ?_
  refine hits_nil ?_
  refine to_next ?_
  refine hits_seq ?_
  refine hits_seq ?_
  refine hits_region ?_
  refine sq (f_move rfl (lt rfl)) rfl rfl ?_
  refine sq (f_bin rfl rfl (bT (b' := true) (beq_self_eq_true _)) (lt rfl)) rfl rfl ?_
  refine hits_nil ?_
  refine to_next ?_
  refine hits_cond rfl (fun c0 => ?_) (fun c0 => ?_)
  case refine_2 => exact absurd c0 Bool.false_ne_true.symm
  case refine_1 =>
    refine hits_seq ?_
    refine hits_region ?_
    refine sq (f_mkIface rfl nif106 (lt rfl)) rfl rfl ?_
    refine sq (f_assign rfl (lt rfl)) rfl rfl ?_
    refine sq (f_assign rfl (lt rfl)) rfl rfl ?_
    refine hits_nil ?_
    refine to_next ?_
    refine hits_ret ?_
    refine to_ret ?_
    exact hits_done (.inl rfl) rfl rfl rfl

set_option maxHeartbeats 4000000 in
set_option maxRecDepth 100000 in
theorem pu_some (s : ByteArray) (hs : s.size ≤ 281474976710656) (h0 : s.size ≠ 0) : CallsP Tryd.prog Errs 74 [.sc (.string s), .sc (.int .i64 16), .sc (.int .i64 64)] (puD (pu16 0 s.data.toList)) := by
  refine callsP_of gs_errs Tryd.func74 rfl Tryd.ntmps74 rfl fun w0 S0 stab => ?_
  refine hits_seq ?_
  refine hits_region ?_
  refine sq (f_assign rfl (lt rfl)) rfl rfl ?_
  refine sq (f_assign rfl (lt rfl)) rfl rfl ?_
  refine hits_nil ?_
  refine to_next ?_
  refine hits_seq ?_
  refine hits_seq ?_
  refine hits_region ?_
  refine sq (f_move rfl (lt rfl)) rfl rfl ?_
  refine sq (f_bin rfl rfl (bT (b' := false) (by rw [str_beq]; exact decide_eq_false (fun c => by subst c; exact h0 rfl))) (lt rfl)) rfl rfl ?_
  refine hits_nil ?_
  refine to_next ?_
  refine hits_cond rfl (fun c0 => ?_) (fun c0 => ?_)
  case refine_1 => exact absurd c0 Bool.false_ne_true
  case refine_2 =>
    refine hits_skip ?_
    refine to_next ?_
    refine hits_seq ?_
    refine hits_region ?_
    refine sq (f_move rfl (lt rfl)) rfl rfl ?_
    refine sq (f_bin rfl rfl (bT (b' := false) rfl) (lt rfl)) rfl rfl ?_
    refine sq (f_assign rfl (lt rfl)) rfl rfl ?_
    refine hits_nil ?_
    refine to_next ?_
    refine hits_seq ?_
    refine hits_region ?_
    refine sq (f_move rfl (lt rfl)) rfl rfl ?_
    refine sq (f_assign rfl (lt rfl)) rfl rfl ?_
    refine hits_nil ?_
    refine to_next ?_
    refine hits_seq ?_
    refine hits_block ?_
    refine hits_seq ?_
    refine hits_region ?_
    refine sq (f_move rfl (lt rfl)) rfl rfl ?_
    refine sq (f_bin rfl rfl (bT (b' := true) rfl) (lt rfl)) rfl rfl ?_
    refine sq (f_move rfl (lt rfl)) rfl rfl ?_
    refine sq_yes (f_move rfl (lt rfl)) rfl rfl rfl rfl (lt rfl) ?_
    refine sq_yes (f_bin rfl rfl (bT (b' := true) rfl) (lt rfl)) rfl rfl rfl rfl (lt rfl) ?_
    refine sq (f_pick rfl rfl (lt rfl)) rfl rfl ?_
    refine sq (f_assign rfl (lt rfl)) rfl rfl ?_
    refine hits_nil ?_
    refine to_next ?_
    refine hits_cond rfl (fun c1 => ?_) (fun c1 => ?_)
    case refine_2 => exact absurd c1 Bool.false_ne_true.symm
    case refine_1 =>
      refine hits_skip ?_
      refine in_next ?_
      refine to_next ?_
      refine hits_seq ?_
      refine hits_seq ?_
      refine hits_region ?_
      refine sq (f_move rfl (lt rfl)) rfl rfl ?_
      refine sq (f_bin rfl rfl (bT (b' := false) rfl) (lt rfl)) rfl rfl ?_
      refine hits_nil ?_
      refine to_next ?_
      refine hits_cond rfl (fun c7 => ?_) (fun c7 => ?_)
      case refine_1 => exact absurd c7 Bool.false_ne_true
      case refine_2 =>
        refine hits_seq ?_
        refine hits_region ?_
        refine sq (f_move rfl (lt rfl)) rfl rfl ?_
        refine sq (f_bin rfl rfl (bT (b' := false) rfl) (lt rfl)) rfl rfl ?_
        refine sq (f_move rfl (lt rfl)) rfl rfl ?_
        refine sq_yes (f_move rfl (lt rfl)) rfl rfl rfl rfl (lt rfl) ?_
        refine sq_yes (f_bin rfl rfl (bT (b' := false) rfl) (lt rfl)) rfl rfl rfl rfl (lt rfl) ?_
        refine sq (f_pick rfl rfl (lt rfl)) rfl rfl ?_
        refine hits_nil ?_
        refine to_next ?_
        refine hits_cond rfl (fun c8 => ?_) (fun c8 => ?_)
        case refine_1 => exact absurd c8 Bool.false_ne_true
        case refine_2 =>
          refine hits_skip ?_
          refine to_next ?_
          refine hits_seq ?_
          refine hits_region ?_
          refine sq (f_assign rfl (lt rfl)) rfl rfl ?_
          refine hits_nil ?_
          refine to_next ?_
          refine hits_seq ?_
          refine hits_seq ?_
          refine hits_region ?_
          refine sq (f_move rfl (lt rfl)) rfl rfl ?_
          refine hits_nil ?_
          refine to_next ?_
          refine hits_block ?_
          refine hits_seq ?_
          refine hits_region ?_
          refine sq (f_bin rfl rfl (bT (b' := false) rfl) (lt rfl)) rfl rfl ?_
          refine sq (f_assign rfl (lt rfl)) rfl rfl ?_
          refine hits_nil ?_
          refine to_next ?_
          refine hits_cond rfl (fun c9 => ?_) (fun c9 => ?_)
          case refine_1 => exact absurd c9 Bool.false_ne_true
          case refine_2 =>
            refine hits_seq ?_
            refine hits_region ?_
            refine sq (f_bin rfl rfl (bT (b' := true) rfl) (lt rfl)) rfl rfl ?_
            refine sq (f_assign rfl (lt rfl)) rfl rfl ?_
            refine hits_nil ?_
            refine to_next ?_
            refine hits_cond rfl (fun c10 => ?_) (fun c10 => ?_)
            case refine_2 => exact absurd c10 Bool.false_ne_true.symm
            case refine_1 =>
              refine hits_region ?_
              refine sq (f_assign rfl (lt rfl)) rfl rfl ?_
              refine hits_nil ?_
              refine in_next ?_
              refine to_next ?_
              refine hits_seq ?_
              refine hits_region ?_
              refine sq (f_move rfl (lt rfl)) rfl rfl ?_
              refine sq (f_convI rfl us3 un63 (by decide : _ = (64 : Int)) (lt rfl)) rfl rfl ?_
              refine sq (f_shl rfl rfl (by omega) (lt rfl)) rfl rfl ?_
              refine sq (f_bin rfl rfl (iT ((by decide : _ = (18446744073709551615 : Int)))) (lt rfl)) rfl rfl ?_
              refine sq (f_assign rfl (lt rfl)) rfl rfl ?_
              refine hits_nil ?_
              refine to_next ?_
              refine hits_seq ?_
              refine hits_region ?_
              refine sq (f_assign rfl (lt rfl)) rfl rfl ?_
              refine hits_nil ?_
              refine to_next ?_
              refine hits_seq ?_
              refine hits_region ?_
              refine sq (f_assign rfl (lt rfl)) rfl rfl ?_
              refine hits_nil ?_
              refine to_next ?_
              refine hits_seq ?_
              refine hits_seq ?_
              refine hits_region ?_
              refine sq (f_move rfl (lt rfl)) rfl rfl ?_
              refine sq (f_bytes rfl us9 un49 un5 (lt rfl)) rfl rfl ?_
              refine sq (f_lenList rfl rfl un49 (lt rfl)) rfl rfl ?_
              refine sq (f_move rfl (lt rfl)) rfl rfl ?_
              refine hits_nil ?_
              refine to_next ?_
              refine hits_block ?_
              refine hits_loop (fun x : Nat × Nat => [(.slot 1, some (.d (.sc (.int .i64 16)))), (.slot 8, some (.d (.sc (.bool false)))), (.slot 10, some (.d (.sc (.int .u64 1152921504606846976)))), (.slot 11, some (.d (.sc (.int .u64 18446744073709551615)))), (.slot 12, some (.d (.sc (.bool false)))), (.slot 13, some (.d (.sc (.int .u64 (x.1 : Int))))), (.slot 99, some (.d (.list 1 (bytesL s)))), (.slot 100, some (.d (.sc (.int .i64 ((bytesL s).length : Int))))), (.slot 101, some (.d (.sc (.int .i64 (x.2 : Int)))))]) (fun x => x.2 ≤ s.size ∧ x.1 < 18446744073709551616 ∧ pu16 0 s.data.toList = pu16 x.1 (s.data.toList.drop x.2)) (fun x => s.size - x.2) (0, 0) ⟨Nat.zero_le _, by decide, by simp⟩ ⟨rfl, rfl, rfl, rfl, rfl, rfl, rfl, rfl, rfl, trivial⟩ rfl ?_
              intro x hx
              obtain ⟨n, i⟩ := x
              obtain ⟨hi, hn64, hJ⟩ := hx
              simp only at hi hn64 hJ
              change Hits _ [(.slot 1, some (.d (.sc (.int .i64 16)))), (.slot 8, some (.d (.sc (.bool false)))), (.slot 10, some (.d (.sc (.int .u64 1152921504606846976)))), (.slot 11, some (.d (.sc (.int .u64 18446744073709551615)))), (.slot 12, some (.d (.sc (.bool false)))), (.slot 13, some (.d (.sc (.int .u64 (n : Int))))), (.slot 99, some (.d (.list 1 (bytesL s)))), (.slot 100, some (.d (.sc (.int .i64 ((bytesL s).length : Int))))), (.slot 101, some (.d (.sc (.int .i64 (i : Int)))))] _
              refine hits_seq ?_
              refine hits_region ?_
              refine sq (f_bin rfl rfl rfl (lt rfl)) rfl rfl ?_
              refine hits_nil ?_
              refine to_next ?_
              refine hits_seq ?_
              refine hits_cond rfl (fun c11 => ?_) (fun c11 => ?_)
              · refine hits_skip ?_
                refine to_next ?_
                refine hits_seq ?_
                refine hits_block ?_
                refine hits_seq ?_
                have hlt : i < s.size := by have := of_decide_eq_true c11; rw [bytesL_length] at this; omega
                obtain ⟨c, hat⟩ : ∃ c, s.data.toList[i]? = some c := ⟨_, List.getElem?_eq_getElem (by simpa using hlt)⟩
                have hb : (bytesL s)[((i : Int)).toNat]? = some (.sc (.int .u8 (c.toNat : Int))) := by rw [Int.toNat_natCast, bytesL, List.getElem?_map, hat]; rfl
                have hdrop : s.data.toList.drop i = c :: s.data.toList.drop (i + 1) := by obtain ⟨h1, h2⟩ := List.getElem?_eq_some_iff.mp hat; rw [List.drop_eq_getElem_cons h1, h2]
                have hc : c.toNat < 256 := c.toNat_lt
                have ho := or_lt hc
                refine hits_region ?_
                refine sq (f_idxList rfl rfl rfl un49 kd5 (Int.natCast_nonneg _) hb (lt rfl)) rfl rfl ?_
                refine sq (f_load kd5 rfl rfl (lt rfl)) rfl rfl ?_
                refine sq (f_assign rfl (lt rfl)) rfl rfl ?_
                refine hits_nil ?_
                refine to_next ?_
                refine hits_seq ?_
                refine hits_region ?_
                refine sq (f_assign rfl (lt rfl)) rfl rfl ?_
                refine hits_nil ?_
                refine to_next ?_
                refine hits_seq ?_
                refine hits_block ?_
                refine hits_seq ?_
                by_cases h1 : 48 ≤ c.toNat ∧ c.toNat ≤ 57
                · obtain ⟨h1, h2⟩ := h1
                  refine hits_region ?_
                  refine sq (f_move rfl (lt rfl)) rfl rfl ?_
                  refine sq (f_bin rfl rfl (bT (beq_eq_false_iff_ne.mpr (by omega))) (lt rfl)) rfl rfl ?_
                  refine sq (f_move rfl (lt rfl)) rfl rfl ?_
                  refine sq_no rfl rfl rfl rfl rfl (lt rfl) (lt rfl) ?_
                  refine sq (f_pick rfl rfl (lt rfl)) rfl rfl ?_
                  refine sq (f_assign rfl (lt rfl)) rfl rfl ?_
                  refine hits_nil ?_
                  refine to_next ?_
                  refine hits_cond rfl (fun c12 => ?_) (fun c12 => ?_)
                  case refine_1 => exact absurd c12 Bool.false_ne_true
                  case refine_2 =>
                    refine hits_seq ?_
                    refine hits_region ?_
                    refine sq (f_move rfl (lt rfl)) rfl rfl ?_
                    refine sq (f_bin rfl rfl (bT (decide_eq_true (by omega))) (lt rfl)) rfl rfl ?_
                    refine sq (f_move rfl (lt rfl)) rfl rfl ?_
                    refine sq_yes (f_move rfl (lt rfl)) rfl rfl rfl rfl (lt rfl) ?_
                    refine sq_yes (f_bin rfl rfl (bT (decide_eq_true (by omega))) (lt rfl)) rfl rfl rfl rfl (lt rfl) ?_
                    refine sq (f_pick rfl rfl (lt rfl)) rfl rfl ?_
                    refine sq (f_assign rfl (lt rfl)) rfl rfl ?_
                    refine hits_nil ?_
                    refine to_next ?_
                    refine hits_cond rfl (fun c13 => ?_) (fun c13 => ?_)
                    case refine_2 => exact absurd c13 Bool.false_ne_true.symm
                    case refine_1 =>
                      refine hits_region ?_
                      refine sq (f_move rfl (lt rfl)) rfl rfl ?_
                      refine sq (f_bin rfl rfl (iT ((u8_sub hc h1 : _ = ((c.toNat - 48 : Nat) : Int)))) (lt rfl)) rfl rfl ?_
                      refine sq (f_assign rfl (lt rfl)) rfl rfl ?_
                      refine hits_nil ?_
                      refine in_next ?_
                      refine to_next ?_
                      refine hits_seq ?_
                      refine hits_seq ?_
                      by_cases hd : 16 ≤ c.toNat - 48
                      · refine hits_region ?_
                        refine sq (f_move rfl (lt rfl)) rfl rfl ?_
                        refine sq (f_move rfl (lt rfl)) rfl rfl ?_
                        refine sq (f_convI rfl us3 un5 (by decide : _ = (16 : Int)) (lt rfl)) rfl rfl ?_
                        refine sq (f_bin rfl rfl (bT (decide_eq_true (by omega))) (lt rfl)) rfl rfl ?_
                        refine hits_nil ?_
                        refine to_next ?_
                        refine hits_cond rfl (fun c15 => ?_) (fun c15 => ?_)
                        case refine_2 => exact absurd c15 Bool.false_ne_true.symm
                        case refine_1 =>
                          refine hits_seq ?_
                          refine hits_region ?_
                          refine sq (f_mkIface rfl nif106 (lt rfl)) rfl rfl ?_
                          refine sq (f_assign rfl (lt rfl)) rfl rfl ?_
                          refine sq (f_assign rfl (lt rfl)) rfl rfl ?_
                          refine hits_nil ?_
                          refine to_next ?_
                          refine hits_ret ?_
                          refine to_ret ?_
                          refine in_ret ?_
                          refine to_ret ?_
                          refine to_ret ?_
                          refine in_ret ?_
                          refine to_ret ?_
                          exact hits_done (.inl rfl) rfl rfl (by rw [hJ, hdrop, pu_big (dig_num h1 h2) hd]; rfl)
                      · by_cases hn : 1152921504606846976 ≤ n
                        · refine hits_region ?_
                          refine sq (f_move rfl (lt rfl)) rfl rfl ?_
                          refine sq (f_move rfl (lt rfl)) rfl rfl ?_
                          refine sq (f_convI rfl us3 un5 (by decide : _ = (16 : Int)) (lt rfl)) rfl rfl ?_
                          refine sq (f_bin rfl rfl (bT (decide_eq_false (by omega))) (lt rfl)) rfl rfl ?_
                          refine hits_nil ?_
                          refine to_next ?_
                          refine hits_cond rfl (fun c15 => ?_) (fun c15 => ?_)
                          case refine_1 => exact absurd c15 Bool.false_ne_true
                          case refine_2 =>
                            refine hits_skip ?_
                            refine to_next ?_
                            refine hits_seq ?_
                            refine hits_seq ?_
                            refine hits_region ?_
                            refine sq (f_move rfl (lt rfl)) rfl rfl ?_
                            refine sq (f_move rfl (lt rfl)) rfl rfl ?_
                            refine sq (f_bin rfl rfl (bT (decide_eq_true (by omega))) (lt rfl)) rfl rfl ?_
                            refine hits_nil ?_
                            refine to_next ?_
                            refine hits_cond rfl (fun c16 => ?_) (fun c16 => ?_)
                            case refine_2 => exact absurd c16 Bool.false_ne_true.symm
                            case refine_1 =>
                              refine hits_seq ?_
                              refine hits_region ?_
                              refine sq (f_move rfl (lt rfl)) rfl rfl ?_
                              refine sq (f_mkIface rfl nif106 (lt rfl)) rfl rfl ?_
                              refine sq (f_assign rfl (lt rfl)) rfl rfl ?_
                              refine sq (f_assign rfl (lt rfl)) rfl rfl ?_
                              refine hits_nil ?_
                              refine to_next ?_
                              refine hits_ret ?_
                              refine to_ret ?_
                              refine in_ret ?_
                              refine to_ret ?_
                              refine to_ret ?_
                              refine in_ret ?_
                              refine to_ret ?_
                              exact hits_done (.inl rfl) rfl rfl (by rw [hJ, hdrop, pu_rng (dig_num h1 h2) hd hn]; rfl)
                        · have hm : n * 16 + (c.toNat - 48) < 18446744073709551616 := by omega
                          refine hits_region ?_
                          refine sq (f_move rfl (lt rfl)) rfl rfl ?_
                          refine sq (f_move rfl (lt rfl)) rfl rfl ?_
                          refine sq (f_convI rfl us3 un5 (by decide : _ = (16 : Int)) (lt rfl)) rfl rfl ?_
                          refine sq (f_bin rfl rfl (bT (decide_eq_false (by omega))) (lt rfl)) rfl rfl ?_
                          refine hits_nil ?_
                          refine to_next ?_
                          refine hits_cond rfl (fun c15 => ?_) (fun c15 => ?_)
                          case refine_1 => exact absurd c15 Bool.false_ne_true
                          case refine_2 =>
                            refine hits_skip ?_
                            refine to_next ?_
                            refine hits_seq ?_
                            refine hits_seq ?_
                            refine hits_region ?_
                            refine sq (f_move rfl (lt rfl)) rfl rfl ?_
                            refine sq (f_move rfl (lt rfl)) rfl rfl ?_
                            refine sq (f_bin rfl rfl (bT (decide_eq_false (by omega))) (lt rfl)) rfl rfl ?_
                            refine hits_nil ?_
                            refine to_next ?_
                            refine hits_cond rfl (fun c16 => ?_) (fun c16 => ?_)
                            case refine_1 => exact absurd c16 Bool.false_ne_true
                            case refine_2 =>
                              refine hits_skip ?_
                              refine to_next ?_
                              refine hits_seq ?_
                              refine hits_region ?_
                              refine sq (f_move rfl (lt rfl)) rfl rfl ?_
                              refine sq (f_move rfl (lt rfl)) rfl rfl ?_
                              refine sq (f_convI rfl us3 un22 (by decide : _ = (16 : Int)) (lt rfl)) rfl rfl ?_
                              refine sq (f_bin rfl rfl (iT ((u64_in (by omega) : _ = ((n * 16 : Nat) : Int)))) (lt rfl)) rfl rfl ?_
                              refine sq (f_assign rfl (lt rfl)) rfl rfl ?_
                              refine hits_nil ?_
                              refine to_next ?_
                              refine hits_seq ?_
                              refine hits_region ?_
                              refine sq (f_move rfl (lt rfl)) rfl rfl ?_
                              refine sq (f_move rfl (lt rfl)) rfl rfl ?_
                              refine sq (f_convI rfl us5 un22 (u64_in (by omega)) (lt rfl)) rfl rfl ?_
                              refine sq (f_bin rfl rfl (iT ((u64_in hm : _ = ((n * 16 + (c.toNat - 48) : Nat) : Int)))) (lt rfl)) rfl rfl ?_
                              refine sq (f_assign rfl (lt rfl)) rfl rfl ?_
                              refine hits_nil ?_
                              refine to_next ?_
                              refine hits_seq ?_
                              refine hits_seq ?_
                              refine hits_region ?_
                              refine sq (f_move rfl (lt rfl)) rfl rfl ?_
                              refine sq (f_move rfl (lt rfl)) rfl rfl ?_
                              refine sq (f_bin rfl rfl (bT (decide_eq_false (by omega))) (lt rfl)) rfl rfl ?_
                              refine sq (f_move rfl (lt rfl)) rfl rfl ?_
                              refine sq_yes (f_move rfl (lt rfl)) rfl rfl rfl rfl (lt rfl) ?_
                              refine sq_yes (f_move rfl (lt rfl)) rfl rfl rfl rfl (lt rfl) ?_
                              refine sq_yes (f_bin rfl rfl (bT (decide_eq_false (by omega))) (lt rfl)) rfl rfl rfl rfl (lt rfl) ?_
                              refine sq (f_pick rfl rfl (lt rfl)) rfl rfl ?_
                              refine hits_nil ?_
                              refine to_next ?_
                              refine hits_cond rfl (fun c17 => ?_) (fun c17 => ?_)
                              case refine_1 => exact absurd c17 Bool.false_ne_true
                              case refine_2 =>
                                refine hits_skip ?_
                                refine to_next ?_
                                refine hits_region ?_
                                refine sq (f_move rfl (lt rfl)) rfl rfl ?_
                                refine sq (f_assign rfl (lt rfl)) rfl rfl ?_
                                refine hits_nil ?_
                                refine in_next ?_
                                refine to_next ?_
                                refine hits_region ?_
                                refine sq (f_bin rfl rfl (iT ((wrap_succ (by omega) : _ = ((i + 1 : Nat) : Int)))) (lt rfl)) rfl rfl ?_
                                refine sq (f_move rfl (lt rfl)) rfl rfl ?_
                                refine hits_nil ?_
                                refine to_next ?_
                                refine round_end (n * 16 + (c.toNat - 48), i + 1) ⟨by omega, hm, hJ.trans (by rw [hdrop, pu_go (dig_num h1 h2) hd hn])⟩ (by omega) ⟨rfl, rfl, rfl, rfl, rfl, rfl, rfl, rfl, rfl, trivial⟩ rfl
                · by_cases h2 : 97 ≤ c.toNat ||| 32 ∧ c.toNat ||| 32 ≤ 122
                  · obtain ⟨h2, h3⟩ := h2
                    have hn95 : c.toNat ≠ 95 := fun e => by rw [e] at h3; exact absurd h3 (by decide)
                    refine hits_region ?_
                    refine sq (f_move rfl (lt rfl)) rfl rfl ?_
                    refine sq (f_bin rfl rfl (bT (beq_eq_false_iff_ne.mpr (by omega))) (lt rfl)) rfl rfl ?_
                    refine sq (f_move rfl (lt rfl)) rfl rfl ?_
                    refine sq_no rfl rfl rfl rfl rfl (lt rfl) (lt rfl) ?_
                    refine sq (f_pick rfl rfl (lt rfl)) rfl rfl ?_
                    refine sq (f_assign rfl (lt rfl)) rfl rfl ?_
                    refine hits_nil ?_
                    refine to_next ?_
                    refine hits_cond rfl (fun c12 => ?_) (fun c12 => ?_)
                    case refine_1 => exact absurd c12 Bool.false_ne_true
                    case refine_2 =>
                      refine hits_seq ?_
                      by_cases h4 : 48 ≤ c.toNat
                      · refine hits_region ?_
                        refine sq (f_move rfl (lt rfl)) rfl rfl ?_
                        refine sq (f_bin rfl rfl (bT (decide_eq_true (by omega))) (lt rfl)) rfl rfl ?_
                        refine sq (f_move rfl (lt rfl)) rfl rfl ?_
                        refine sq_yes (f_move rfl (lt rfl)) rfl rfl rfl rfl (lt rfl) ?_
                        refine sq_yes (f_bin rfl rfl (bT (decide_eq_false (by omega))) (lt rfl)) rfl rfl rfl rfl (lt rfl) ?_
                        refine sq (f_pick rfl rfl (lt rfl)) rfl rfl ?_
                        refine sq (f_assign rfl (lt rfl)) rfl rfl ?_
                        refine hits_nil ?_
                        refine to_next ?_
                        refine hits_cond rfl (fun c13 => ?_) (fun c13 => ?_)
                        case refine_1 => exact absurd c13 Bool.false_ne_true
                        case refine_2 =>
                          refine hits_seq ?_
                          refine hits_region ?_
                          refine sq (f_move rfl (lt rfl)) rfl rfl ?_
                          refine sq (f_call en91 rfl (low_c hc) (lt rfl)) rfl rfl ?_
                          refine sq (f_bin rfl rfl (bT (decide_eq_true (by omega))) (lt rfl)) rfl rfl ?_
                          refine sq (f_move rfl (lt rfl)) rfl rfl ?_
                          refine sq_yes (f_move rfl (lt rfl)) rfl rfl rfl rfl (lt rfl) ?_
                          refine sq_yes (f_call en91 rfl (low_c hc) (lt rfl)) rfl rfl rfl rfl (lt rfl) ?_
                          refine sq_yes (f_bin rfl rfl (bT (decide_eq_true (by omega))) (lt rfl)) rfl rfl rfl rfl (lt rfl) ?_
                          refine sq (f_pick rfl rfl (lt rfl)) rfl rfl ?_
                          refine sq (f_assign rfl (lt rfl)) rfl rfl ?_
                          refine hits_nil ?_
                          refine to_next ?_
                          refine hits_cond rfl (fun c14 => ?_) (fun c14 => ?_)
                          case refine_2 => exact absurd c14 Bool.false_ne_true.symm
                          case refine_1 =>
                            refine hits_region ?_
                            refine sq (f_move rfl (lt rfl)) rfl rfl ?_
                            refine sq (f_call en91 rfl (low_c hc) (lt rfl)) rfl rfl ?_
                            refine sq (f_bin rfl rfl (iT ((u8_sub ho (by omega) : _ = (((c.toNat ||| 32) - 97 : Nat) : Int)))) (lt rfl)) rfl rfl ?_
                            refine sq (f_bin rfl rfl (iT (((u8_add (k := 10) (by omega)).trans (by omega) : _ = (((c.toNat ||| 32) - 87 : Nat) : Int)))) (lt rfl)) rfl rfl ?_
                            refine sq (f_assign rfl (lt rfl)) rfl rfl ?_
                            refine hits_nil ?_
                            refine in_next ?_
                            refine to_next ?_
                            refine hits_seq ?_
                            refine hits_seq ?_
                            by_cases hd : 16 ≤ (c.toNat ||| 32) - 87
                            · refine hits_region ?_
                              refine sq (f_move rfl (lt rfl)) rfl rfl ?_
                              refine sq (f_move rfl (lt rfl)) rfl rfl ?_
                              refine sq (f_convI rfl us3 un5 (by decide : _ = (16 : Int)) (lt rfl)) rfl rfl ?_
                              refine sq (f_bin rfl rfl (bT (decide_eq_true (by omega))) (lt rfl)) rfl rfl ?_
                              refine hits_nil ?_
                              refine to_next ?_
                              refine hits_cond rfl (fun c15 => ?_) (fun c15 => ?_)
                              case refine_2 => exact absurd c15 Bool.false_ne_true.symm
                              case refine_1 =>
                                refine hits_seq ?_
                                refine hits_region ?_
                                refine sq (f_mkIface rfl nif106 (lt rfl)) rfl rfl ?_
                                refine sq (f_assign rfl (lt rfl)) rfl rfl ?_
                                refine sq (f_assign rfl (lt rfl)) rfl rfl ?_
                                refine hits_nil ?_
                                refine to_next ?_
                                refine hits_ret ?_
                                refine to_ret ?_
                                refine in_ret ?_
                                refine to_ret ?_
                                refine to_ret ?_
                                refine in_ret ?_
                                refine to_ret ?_
                                exact hits_done (.inl rfl) rfl rfl (by rw [hJ, hdrop, pu_big (dig_let h1 h2 h3) hd]; rfl)
                            · by_cases hn : 1152921504606846976 ≤ n
                              · refine hits_region ?_
                                refine sq (f_move rfl (lt rfl)) rfl rfl ?_
                                refine sq (f_move rfl (lt rfl)) rfl rfl ?_
                                refine sq (f_convI rfl us3 un5 (by decide : _ = (16 : Int)) (lt rfl)) rfl rfl ?_
                                refine sq (f_bin rfl rfl (bT (decide_eq_false (by omega))) (lt rfl)) rfl rfl ?_
                                refine hits_nil ?_
                                refine to_next ?_
                                refine hits_cond rfl (fun c15 => ?_) (fun c15 => ?_)
                                case refine_1 => exact absurd c15 Bool.false_ne_true
                                case refine_2 =>
                                  refine hits_skip ?_
                                  refine to_next ?_
                                  refine hits_seq ?_
                                  refine hits_seq ?_
                                  refine hits_region ?_
                                  refine sq (f_move rfl (lt rfl)) rfl rfl ?_
                                  refine sq (f_move rfl (lt rfl)) rfl rfl ?_
                                  refine sq (f_bin rfl rfl (bT (decide_eq_true (by omega))) (lt rfl)) rfl rfl ?_
                                  refine hits_nil ?_
                                  refine to_next ?_
                                  refine hits_cond rfl (fun c16 => ?_) (fun c16 => ?_)
                                  case refine_2 => exact absurd c16 Bool.false_ne_true.symm
                                  case refine_1 =>
                                    refine hits_seq ?_
                                    refine hits_region ?_
                                    refine sq (f_move rfl (lt rfl)) rfl rfl ?_
                                    refine sq (f_mkIface rfl nif106 (lt rfl)) rfl rfl ?_
                                    refine sq (f_assign rfl (lt rfl)) rfl rfl ?_
                                    refine sq (f_assign rfl (lt rfl)) rfl rfl ?_
                                    refine hits_nil ?_
                                    refine to_next ?_
                                    refine hits_ret ?_
                                    refine to_ret ?_
                                    refine in_ret ?_
                                    refine to_ret ?_
                                    refine to_ret ?_
                                    refine in_ret ?_
                                    refine to_ret ?_
                                    exact hits_done (.inl rfl) rfl rfl (by rw [hJ, hdrop, pu_rng (dig_let h1 h2 h3) hd hn]; rfl)
                              · have hm : n * 16 + ((c.toNat ||| 32) - 87) < 18446744073709551616 := by omega
                                refine hits_region ?_
                                refine sq (f_move rfl (lt rfl)) rfl rfl ?_
                                refine sq (f_move rfl (lt rfl)) rfl rfl ?_
                                refine sq (f_convI rfl us3 un5 (by decide : _ = (16 : Int)) (lt rfl)) rfl rfl ?_
                                refine sq (f_bin rfl rfl (bT (decide_eq_false (by omega))) (lt rfl)) rfl rfl ?_
                                refine hits_nil ?_
                                refine to_next ?_
                                refine hits_cond rfl (fun c15 => ?_) (fun c15 => ?_)
                                case refine_1 => exact absurd c15 Bool.false_ne_true
                                case refine_2 =>
                                  refine hits_skip ?_
                                  refine to_next ?_
                                  refine hits_seq ?_
                                  refine hits_seq ?_
                                  refine hits_region ?_
                                  refine sq (f_move rfl (lt rfl)) rfl rfl ?_
                                  refine sq (f_move rfl (lt rfl)) rfl rfl ?_
                                  refine sq (f_bin rfl rfl (bT (decide_eq_false (by omega))) (lt rfl)) rfl rfl ?_
                                  refine hits_nil ?_
                                  refine to_next ?_
                                  refine hits_cond rfl (fun c16 => ?_) (fun c16 => ?_)
                                  case refine_1 => exact absurd c16 Bool.false_ne_true
                                  case refine_2 =>
                                    refine hits_skip ?_
                                    refine to_next ?_
                                    refine hits_seq ?_
                                    refine hits_region ?_
                                    refine sq (f_move rfl (lt rfl)) rfl rfl ?_
                                    refine sq (f_move rfl (lt rfl)) rfl rfl ?_
                                    refine sq (f_convI rfl us3 un22 (by decide : _ = (16 : Int)) (lt rfl)) rfl rfl ?_
                                    refine sq (f_bin rfl rfl (iT ((u64_in (by omega) : _ = ((n * 16 : Nat) : Int)))) (lt rfl)) rfl rfl ?_
                                    refine sq (f_assign rfl (lt rfl)) rfl rfl ?_
                                    refine hits_nil ?_
                                    refine to_next ?_
                                    refine hits_seq ?_
                                    refine hits_region ?_
                                    refine sq (f_move rfl (lt rfl)) rfl rfl ?_
                                    refine sq (f_move rfl (lt rfl)) rfl rfl ?_
                                    refine sq (f_convI rfl us5 un22 (u64_in (by omega)) (lt rfl)) rfl rfl ?_
                                    refine sq (f_bin rfl rfl (iT ((u64_in hm : _ = ((n * 16 + ((c.toNat ||| 32) - 87) : Nat) : Int)))) (lt rfl)) rfl rfl ?_
                                    refine sq (f_assign rfl (lt rfl)) rfl rfl ?_
                                    refine hits_nil ?_
                                    refine to_next ?_
                                    refine hits_seq ?_
                                    refine hits_seq ?_
                                    refine hits_region ?_
                                    refine sq (f_move rfl (lt rfl)) rfl rfl ?_
                                    refine sq (f_move rfl (lt rfl)) rfl rfl ?_
                                    refine sq (f_bin rfl rfl (bT (decide_eq_false (by omega))) (lt rfl)) rfl rfl ?_
                                    refine sq (f_move rfl (lt rfl)) rfl rfl ?_
                                    refine sq_yes (f_move rfl (lt rfl)) rfl rfl rfl rfl (lt rfl) ?_
                                    refine sq_yes (f_move rfl (lt rfl)) rfl rfl rfl rfl (lt rfl) ?_
                                    refine sq_yes (f_bin rfl rfl (bT (decide_eq_false (by omega))) (lt rfl)) rfl rfl rfl rfl (lt rfl) ?_
                                    refine sq (f_pick rfl rfl (lt rfl)) rfl rfl ?_
                                    refine hits_nil ?_
                                    refine to_next ?_
                                    refine hits_cond rfl (fun c17 => ?_) (fun c17 => ?_)
                                    case refine_1 => exact absurd c17 Bool.false_ne_true
                                    case refine_2 =>
                                      refine hits_skip ?_
                                      refine to_next ?_
                                      refine hits_region ?_
                                      refine sq (f_move rfl (lt rfl)) rfl rfl ?_
                                      refine sq (f_assign rfl (lt rfl)) rfl rfl ?_
                                      refine hits_nil ?_
                                      refine in_next ?_
                                      refine to_next ?_
                                      refine hits_region ?_
                                      refine sq (f_bin rfl rfl (iT ((wrap_succ (by omega) : _ = ((i + 1 : Nat) : Int)))) (lt rfl)) rfl rfl ?_
                                      refine sq (f_move rfl (lt rfl)) rfl rfl ?_
                                      refine hits_nil ?_
                                      refine to_next ?_
                                      refine round_end (n * 16 + ((c.toNat ||| 32) - 87), i + 1) ⟨by omega, hm, hJ.trans (by rw [hdrop, pu_go (dig_let h1 h2 h3) hd hn])⟩ (by omega) ⟨rfl, rfl, rfl, rfl, rfl, rfl, rfl, rfl, rfl, trivial⟩ rfl
                      · refine hits_region ?_
                        refine sq (f_move rfl (lt rfl)) rfl rfl ?_
                        refine sq (f_bin rfl rfl (bT (decide_eq_false (by omega))) (lt rfl)) rfl rfl ?_
                        refine sq (f_move rfl (lt rfl)) rfl rfl ?_
                        refine sq_no rfl rfl rfl rfl rfl (lt rfl) (lt rfl) ?_
                        refine sq_no rfl rfl rfl rfl rfl (lt rfl) (lt rfl) ?_
                        refine sq (f_pick rfl rfl (lt rfl)) rfl rfl ?_
                        refine sq (f_assign rfl (lt rfl)) rfl rfl ?_
                        refine hits_nil ?_
                        refine to_next ?_
                        refine hits_cond rfl (fun c13 => ?_) (fun c13 => ?_)
                        case refine_1 => exact absurd c13 Bool.false_ne_true
                        case refine_2 =>
                          refine hits_seq ?_
                          refine hits_region ?_
                          refine sq (f_move rfl (lt rfl)) rfl rfl ?_
                          refine sq (f_call en91 rfl (low_c hc) (lt rfl)) rfl rfl ?_
                          refine sq (f_bin rfl rfl (bT (decide_eq_true (by omega))) (lt rfl)) rfl rfl ?_
                          refine sq (f_move rfl (lt rfl)) rfl rfl ?_
                          refine sq_yes (f_move rfl (lt rfl)) rfl rfl rfl rfl (lt rfl) ?_
                          refine sq_yes (f_call en91 rfl (low_c hc) (lt rfl)) rfl rfl rfl rfl (lt rfl) ?_
                          refine sq_yes (f_bin rfl rfl (bT (decide_eq_true (by omega))) (lt rfl)) rfl rfl rfl rfl (lt rfl) ?_
                          refine sq (f_pick rfl rfl (lt rfl)) rfl rfl ?_
                          refine sq (f_assign rfl (lt rfl)) rfl rfl ?_
                          refine hits_nil ?_
                          refine to_next ?_
                          refine hits_cond rfl (fun c14 => ?_) (fun c14 => ?_)
                          case refine_2 => exact absurd c14 Bool.false_ne_true.symm
                          case refine_1 =>
                            refine hits_region ?_
                            refine sq (f_move rfl (lt rfl)) rfl rfl ?_
                            refine sq (f_call en91 rfl (low_c hc) (lt rfl)) rfl rfl ?_
                            refine sq (f_bin rfl rfl (iT ((u8_sub ho (by omega) : _ = (((c.toNat ||| 32) - 97 : Nat) : Int)))) (lt rfl)) rfl rfl ?_
                            refine sq (f_bin rfl rfl (iT (((u8_add (k := 10) (by omega)).trans (by omega) : _ = (((c.toNat ||| 32) - 87 : Nat) : Int)))) (lt rfl)) rfl rfl ?_
                            refine sq (f_assign rfl (lt rfl)) rfl rfl ?_
                            refine hits_nil ?_
                            refine in_next ?_
                            refine to_next ?_
                            refine hits_seq ?_
                            refine hits_seq ?_
                            by_cases hd : 16 ≤ (c.toNat ||| 32) - 87
                            · refine hits_region ?_
                              refine sq (f_move rfl (lt rfl)) rfl rfl ?_
                              refine sq (f_move rfl (lt rfl)) rfl rfl ?_
                              refine sq (f_convI rfl us3 un5 (by decide : _ = (16 : Int)) (lt rfl)) rfl rfl ?_
                              refine sq (f_bin rfl rfl (bT (decide_eq_true (by omega))) (lt rfl)) rfl rfl ?_
                              refine hits_nil ?_
                              refine to_next ?_
                              refine hits_cond rfl (fun c15 => ?_) (fun c15 => ?_)
                              case refine_2 => exact absurd c15 Bool.false_ne_true.symm
                              case refine_1 =>
                                refine hits_seq ?_
                                refine hits_region ?_
                                refine sq (f_mkIface rfl nif106 (lt rfl)) rfl rfl ?_
                                refine sq (f_assign rfl (lt rfl)) rfl rfl ?_
                                refine sq (f_assign rfl (lt rfl)) rfl rfl ?_
                                refine hits_nil ?_
                                refine to_next ?_
                                refine hits_ret ?_
                                refine to_ret ?_
                                refine in_ret ?_
                                refine to_ret ?_
                                refine to_ret ?_
                                refine in_ret ?_
                                refine to_ret ?_
                                exact hits_done (.inl rfl) rfl rfl (by rw [hJ, hdrop, pu_big (dig_let h1 h2 h3) hd]; rfl)
                            · by_cases hn : 1152921504606846976 ≤ n
                              · refine hits_region ?_
                                refine sq (f_move rfl (lt rfl)) rfl rfl ?_
                                refine sq (f_move rfl (lt rfl)) rfl rfl ?_
                                refine sq (f_convI rfl us3 un5 (by decide : _ = (16 : Int)) (lt rfl)) rfl rfl ?_
                                refine sq (f_bin rfl rfl (bT (decide_eq_false (by omega))) (lt rfl)) rfl rfl ?_
                                refine hits_nil ?_
                                refine to_next ?_
                                refine hits_cond rfl (fun c15 => ?_) (fun c15 => ?_)
                                case refine_1 => exact absurd c15 Bool.false_ne_true
                                case refine_2 =>
                                  refine hits_skip ?_
                                  refine to_next ?_
                                  refine hits_seq ?_
                                  refine hits_seq ?_
                                  refine hits_region ?_
                                  refine sq (f_move rfl (lt rfl)) rfl rfl ?_
                                  refine sq (f_move rfl (lt rfl)) rfl rfl ?_
                                  refine sq (f_bin rfl rfl (bT (decide_eq_true (by omega))) (lt rfl)) rfl rfl ?_
                                  refine hits_nil ?_
                                  refine to_next ?_
                                  refine hits_cond rfl (fun c16 => ?_) (fun c16 => ?_)
                                  case refine_2 => exact absurd c16 Bool.false_ne_true.symm
                                  case refine_1 =>
                                    refine hits_seq ?_
                                    refine hits_region ?_
                                    refine sq (f_move rfl (lt rfl)) rfl rfl ?_
                                    refine sq (f_mkIface rfl nif106 (lt rfl)) rfl rfl ?_
                                    refine sq (f_assign rfl (lt rfl)) rfl rfl ?_
                                    refine sq (f_assign rfl (lt rfl)) rfl rfl ?_
                                    refine hits_nil ?_
                                    refine to_next ?_
                                    refine hits_ret ?_
                                    refine to_ret ?_
                                    refine in_ret ?_
                                    refine to_ret ?_
                                    refine to_ret ?_
                                    refine in_ret ?_
                                    refine to_ret ?_
                                    exact hits_done (.inl rfl) rfl rfl (by rw [hJ, hdrop, pu_rng (dig_let h1 h2 h3) hd hn]; rfl)
                              · have hm : n * 16 + ((c.toNat ||| 32) - 87) < 18446744073709551616 := by omega
                                refine hits_region ?_
                                refine sq (f_move rfl (lt rfl)) rfl rfl ?_
                                refine sq (f_move rfl (lt rfl)) rfl rfl ?_
                                refine sq (f_convI rfl us3 un5 (by decide : _ = (16 : Int)) (lt rfl)) rfl rfl ?_
                                refine sq (f_bin rfl rfl (bT (decide_eq_false (by omega))) (lt rfl)) rfl rfl ?_
                                refine hits_nil ?_
                                refine to_next ?_
                                refine hits_cond rfl (fun c15 => ?_) (fun c15 => ?_)
                                case refine_1 => exact absurd c15 Bool.false_ne_true
                                case refine_2 =>
                                  refine hits_skip ?_
                                  refine to_next ?_
                                  refine hits_seq ?_
                                  refine hits_seq ?_
                                  refine hits_region ?_
                                  refine sq (f_move rfl (lt rfl)) rfl rfl ?_
                                  refine sq (f_move rfl (lt rfl)) rfl rfl ?_
                                  refine sq (f_bin rfl rfl (bT (decide_eq_false (by omega))) (lt rfl)) rfl rfl ?_
                                  refine hits_nil ?_
                                  refine to_next ?_
                                  refine hits_cond rfl (fun c16 => ?_) (fun c16 => ?_)
                                  case refine_1 => exact absurd c16 Bool.false_ne_true
                                  case refine_2 =>
                                    refine hits_skip ?_
                                    refine to_next ?_
                                    refine hits_seq ?_
                                    refine hits_region ?_
                                    refine sq (f_move rfl (lt rfl)) rfl rfl ?_
                                    refine sq (f_move rfl (lt rfl)) rfl rfl ?_
                                    refine sq (f_convI rfl us3 un22 (by decide : _ = (16 : Int)) (lt rfl)) rfl rfl ?_
                                    refine sq (f_bin rfl rfl (iT ((u64_in (by omega) : _ = ((n * 16 : Nat) : Int)))) (lt rfl)) rfl rfl ?_
                                    refine sq (f_assign rfl (lt rfl)) rfl rfl ?_
                                    refine hits_nil ?_
                                    refine to_next ?_
                                    refine hits_seq ?_
                                    refine hits_region ?_
                                    refine sq (f_move rfl (lt rfl)) rfl rfl ?_
                                    refine sq (f_move rfl (lt rfl)) rfl rfl ?_
                                    refine sq (f_convI rfl us5 un22 (u64_in (by omega)) (lt rfl)) rfl rfl ?_
                                    refine sq (f_bin rfl rfl (iT ((u64_in hm : _ = ((n * 16 + ((c.toNat ||| 32) - 87) : Nat) : Int)))) (lt rfl)) rfl rfl ?_
                                    refine sq (f_assign rfl (lt rfl)) rfl rfl ?_
                                    refine hits_nil ?_
                                    refine to_next ?_
                                    refine hits_seq ?_
                                    refine hits_seq ?_
                                    refine hits_region ?_
                                    refine sq (f_move rfl (lt rfl)) rfl rfl ?_
                                    refine sq (f_move rfl (lt rfl)) rfl rfl ?_
                                    refine sq (f_bin rfl rfl (bT (decide_eq_false (by omega))) (lt rfl)) rfl rfl ?_
                                    refine sq (f_move rfl (lt rfl)) rfl rfl ?_
                                    refine sq_yes (f_move rfl (lt rfl)) rfl rfl rfl rfl (lt rfl) ?_
                                    refine sq_yes (f_move rfl (lt rfl)) rfl rfl rfl rfl (lt rfl) ?_
                                    refine sq_yes (f_bin rfl rfl (bT (decide_eq_false (by omega))) (lt rfl)) rfl rfl rfl rfl (lt rfl) ?_
                                    refine sq (f_pick rfl rfl (lt rfl)) rfl rfl ?_
                                    refine hits_nil ?_
                                    refine to_next ?_
                                    refine hits_cond rfl (fun c17 => ?_) (fun c17 => ?_)
                                    case refine_1 => exact absurd c17 Bool.false_ne_true
                                    case refine_2 =>
                                      refine hits_skip ?_
                                      refine to_next ?_
                                      refine hits_region ?_
                                      refine sq (f_move rfl (lt rfl)) rfl rfl ?_
                                      refine sq (f_assign rfl (lt rfl)) rfl rfl ?_
                                      refine hits_nil ?_
                                      refine in_next ?_
                                      refine to_next ?_
                                      refine hits_region ?_
                                      refine sq (f_bin rfl rfl (iT ((wrap_succ (by omega) : _ = ((i + 1 : Nat) : Int)))) (lt rfl)) rfl rfl ?_
                                      refine sq (f_move rfl (lt rfl)) rfl rfl ?_
                                      refine hits_nil ?_
                                      refine to_next ?_
                                      refine round_end (n * 16 + ((c.toNat ||| 32) - 87), i + 1) ⟨by omega, hm, hJ.trans (by rw [hdrop, pu_go (dig_let h1 h2 h3) hd hn])⟩ (by omega) ⟨rfl, rfl, rfl, rfl, rfl, rfl, rfl, rfl, rfl, trivial⟩ rfl
                  · by_cases h95 : c.toNat = 95
                    · have e95 : ((c.toNat : Nat) : Int) = 95 := by omega
                      refine hits_region ?_
                      refine sq (f_move rfl (lt rfl)) rfl rfl ?_
                      refine sq (f_bin rfl rfl (bT (beq_iff_eq.mpr e95)) (lt rfl)) rfl rfl ?_
                      refine sq (f_move rfl (lt rfl)) rfl rfl ?_
                      refine sq_yes (f_move rfl (lt rfl)) rfl rfl rfl rfl (lt rfl) ?_
                      refine sq (f_pick rfl rfl (lt rfl)) rfl rfl ?_
                      refine sq (f_assign rfl (lt rfl)) rfl rfl ?_
                      refine hits_nil ?_
                      refine to_next ?_
                      refine hits_cond rfl (fun c12 => ?_) (fun c12 => ?_)
                      case refine_1 => exact absurd c12 Bool.false_ne_true
                      case refine_2 =>
                        refine hits_seq ?_
                        refine hits_region ?_
                        refine sq (f_move rfl (lt rfl)) rfl rfl ?_
                        refine sq (f_bin rfl rfl (bT (decide_eq_true (by omega))) (lt rfl)) rfl rfl ?_
                        refine sq (f_move rfl (lt rfl)) rfl rfl ?_
                        refine sq_yes (f_move rfl (lt rfl)) rfl rfl rfl rfl (lt rfl) ?_
                        refine sq_yes (f_bin rfl rfl (bT (decide_eq_false (by omega))) (lt rfl)) rfl rfl rfl rfl (lt rfl) ?_
                        refine sq (f_pick rfl rfl (lt rfl)) rfl rfl ?_
                        refine sq (f_assign rfl (lt rfl)) rfl rfl ?_
                        refine hits_nil ?_
                        refine to_next ?_
                        refine hits_cond rfl (fun c13 => ?_) (fun c13 => ?_)
                        case refine_1 => exact absurd c13 Bool.false_ne_true
                        case refine_2 =>
                          refine hits_seq ?_
                          refine hits_region ?_
                          refine sq (f_move rfl (lt rfl)) rfl rfl ?_
                          refine sq (f_call en91 rfl (low_c hc) (lt rfl)) rfl rfl ?_
                          refine sq (f_bin rfl rfl (bT (decide_eq_true (by rw [h95]; decide))) (lt rfl)) rfl rfl ?_
                          refine sq (f_move rfl (lt rfl)) rfl rfl ?_
                          refine sq_yes (f_move rfl (lt rfl)) rfl rfl rfl rfl (lt rfl) ?_
                          refine sq_yes (f_call en91 rfl (low_c hc) (lt rfl)) rfl rfl rfl rfl (lt rfl) ?_
                          refine sq_yes (f_bin rfl rfl (bT (decide_eq_false (by rw [h95]; decide))) (lt rfl)) rfl rfl rfl rfl (lt rfl) ?_
                          refine sq (f_pick rfl rfl (lt rfl)) rfl rfl ?_
                          refine sq (f_assign rfl (lt rfl)) rfl rfl ?_
                          refine hits_nil ?_
                          refine to_next ?_
                          refine hits_cond rfl (fun c14 => ?_) (fun c14 => ?_)
                          case refine_1 => exact absurd c14 Bool.false_ne_true
                          case refine_2 =>
                            refine hits_seq ?_
                            refine hits_region ?_
                            refine sq (f_mkIface rfl nif106 (lt rfl)) rfl rfl ?_
                            refine sq (f_assign rfl (lt rfl)) rfl rfl ?_
                            refine sq (f_assign rfl (lt rfl)) rfl rfl ?_
                            refine hits_nil ?_
                            refine to_next ?_
                            refine hits_ret ?_
                            refine in_ret ?_
                            refine to_ret ?_
                            refine in_ret ?_
                            refine to_ret ?_
                            refine to_ret ?_
                            refine in_ret ?_
                            refine to_ret ?_
                            exact hits_done (.inl rfl) rfl rfl (by rw [hJ, hdrop, pu_bad (dig_no h1 h2)]; rfl)
                    · refine hits_region ?_
                      refine sq (f_move rfl (lt rfl)) rfl rfl ?_
                      refine sq (f_bin rfl rfl (bT (beq_eq_false_iff_ne.mpr (by omega))) (lt rfl)) rfl rfl ?_
                      refine sq (f_move rfl (lt rfl)) rfl rfl ?_
                      refine sq_no rfl rfl rfl rfl rfl (lt rfl) (lt rfl) ?_
                      refine sq (f_pick rfl rfl (lt rfl)) rfl rfl ?_
                      refine sq (f_assign rfl (lt rfl)) rfl rfl ?_
                      refine hits_nil ?_
                      refine to_next ?_
                      refine hits_cond rfl (fun c12 => ?_) (fun c12 => ?_)
                      case refine_1 => exact absurd c12 Bool.false_ne_true
                      case refine_2 =>
                        refine hits_seq ?_
                        by_cases h4 : 48 ≤ c.toNat
                        · refine hits_region ?_
                          refine sq (f_move rfl (lt rfl)) rfl rfl ?_
                          refine sq (f_bin rfl rfl (bT (decide_eq_true (by omega))) (lt rfl)) rfl rfl ?_
                          refine sq (f_move rfl (lt rfl)) rfl rfl ?_
                          refine sq_yes (f_move rfl (lt rfl)) rfl rfl rfl rfl (lt rfl) ?_
                          refine sq_yes (f_bin rfl rfl (bT (decide_eq_false (by omega))) (lt rfl)) rfl rfl rfl rfl (lt rfl) ?_
                          refine sq (f_pick rfl rfl (lt rfl)) rfl rfl ?_
                          refine sq (f_assign rfl (lt rfl)) rfl rfl ?_
                          refine hits_nil ?_
                          refine to_next ?_
                          refine hits_cond rfl (fun c13 => ?_) (fun c13 => ?_)
                          case refine_1 => exact absurd c13 Bool.false_ne_true
                          case refine_2 =>
                            refine hits_seq ?_
                            by_cases h5 : 97 ≤ c.toNat ||| 32
                            · refine hits_region ?_
                              refine sq (f_move rfl (lt rfl)) rfl rfl ?_
                              refine sq (f_call en91 rfl (low_c hc) (lt rfl)) rfl rfl ?_
                              refine sq (f_bin rfl rfl (bT (decide_eq_true (by omega))) (lt rfl)) rfl rfl ?_
                              refine sq (f_move rfl (lt rfl)) rfl rfl ?_
                              refine sq_yes (f_move rfl (lt rfl)) rfl rfl rfl rfl (lt rfl) ?_
                              refine sq_yes (f_call en91 rfl (low_c hc) (lt rfl)) rfl rfl rfl rfl (lt rfl) ?_
                              refine sq_yes (f_bin rfl rfl (bT (decide_eq_false (by omega))) (lt rfl)) rfl rfl rfl rfl (lt rfl) ?_
                              refine sq (f_pick rfl rfl (lt rfl)) rfl rfl ?_
                              refine sq (f_assign rfl (lt rfl)) rfl rfl ?_
                              refine hits_nil ?_
                              refine to_next ?_
                              refine hits_cond rfl (fun c14 => ?_) (fun c14 => ?_)
                              case refine_1 => exact absurd c14 Bool.false_ne_true
                              case refine_2 =>
                                refine hits_seq ?_
                                refine hits_region ?_
                                refine sq (f_mkIface rfl nif106 (lt rfl)) rfl rfl ?_
                                refine sq (f_assign rfl (lt rfl)) rfl rfl ?_
                                refine sq (f_assign rfl (lt rfl)) rfl rfl ?_
                                refine hits_nil ?_
                                refine to_next ?_
                                refine hits_ret ?_
                                refine in_ret ?_
                                refine to_ret ?_
                                refine in_ret ?_
                                refine to_ret ?_
                                refine to_ret ?_
                                refine in_ret ?_
                                refine to_ret ?_
                                exact hits_done (.inl rfl) rfl rfl (by rw [hJ, hdrop, pu_bad (dig_no h1 h2)]; rfl)
                            · refine hits_region ?_
                              refine sq (f_move rfl (lt rfl)) rfl rfl ?_
                              refine sq (f_call en91 rfl (low_c hc) (lt rfl)) rfl rfl ?_
                              refine sq (f_bin rfl rfl (bT (decide_eq_false (by omega))) (lt rfl)) rfl rfl ?_
                              refine sq (f_move rfl (lt rfl)) rfl rfl ?_
                              refine sq_no rfl rfl rfl rfl rfl (lt rfl) (lt rfl) ?_
                              refine sq_no rfl rfl rfl rfl rfl (lt rfl) (lt rfl) ?_
                              refine sq_no rfl rfl rfl rfl rfl (lt rfl) (lt rfl) ?_
                              refine sq (f_pick rfl rfl (lt rfl)) rfl rfl ?_
                              refine sq (f_assign rfl (lt rfl)) rfl rfl ?_
                              refine hits_nil ?_
                              refine to_next ?_
                              refine hits_cond rfl (fun c14 => ?_) (fun c14 => ?_)
                              case refine_1 => exact absurd c14 Bool.false_ne_true
                              case refine_2 =>
                                refine hits_seq ?_
                                refine hits_region ?_
                                refine sq (f_mkIface rfl nif106 (lt rfl)) rfl rfl ?_
                                refine sq (f_assign rfl (lt rfl)) rfl rfl ?_
                                refine sq (f_assign rfl (lt rfl)) rfl rfl ?_
                                refine hits_nil ?_
                                refine to_next ?_
                                refine hits_ret ?_
                                refine in_ret ?_
                                refine to_ret ?_
                                refine in_ret ?_
                                refine to_ret ?_
                                refine to_ret ?_
                                refine in_ret ?_
                                refine to_ret ?_
                                exact hits_done (.inl rfl) rfl rfl (by rw [hJ, hdrop, pu_bad (dig_no h1 h2)]; rfl)
                        · refine hits_region ?_
                          refine sq (f_move rfl (lt rfl)) rfl rfl ?_
                          refine sq (f_bin rfl rfl (bT (decide_eq_false (by omega))) (lt rfl)) rfl rfl ?_
                          refine sq (f_move rfl (lt rfl)) rfl rfl ?_
                          refine sq_no rfl rfl rfl rfl rfl (lt rfl) (lt rfl) ?_
                          refine sq_no rfl rfl rfl rfl rfl (lt rfl) (lt rfl) ?_
                          refine sq (f_pick rfl rfl (lt rfl)) rfl rfl ?_
                          refine sq (f_assign rfl (lt rfl)) rfl rfl ?_
                          refine hits_nil ?_
                          refine to_next ?_
                          refine hits_cond rfl (fun c13 => ?_) (fun c13 => ?_)
                          case refine_1 => exact absurd c13 Bool.false_ne_true
                          case refine_2 =>
                            refine hits_seq ?_
                            by_cases h5 : 97 ≤ c.toNat ||| 32
                            · refine hits_region ?_
                              refine sq (f_move rfl (lt rfl)) rfl rfl ?_
                              refine sq (f_call en91 rfl (low_c hc) (lt rfl)) rfl rfl ?_
                              refine sq (f_bin rfl rfl (bT (decide_eq_true (by omega))) (lt rfl)) rfl rfl ?_
                              refine sq (f_move rfl (lt rfl)) rfl rfl ?_
                              refine sq_yes (f_move rfl (lt rfl)) rfl rfl rfl rfl (lt rfl) ?_
                              refine sq_yes (f_call en91 rfl (low_c hc) (lt rfl)) rfl rfl rfl rfl (lt rfl) ?_
                              refine sq_yes (f_bin rfl rfl (bT (decide_eq_false (by omega))) (lt rfl)) rfl rfl rfl rfl (lt rfl) ?_
                              refine sq (f_pick rfl rfl (lt rfl)) rfl rfl ?_
                              refine sq (f_assign rfl (lt rfl)) rfl rfl ?_
                              refine hits_nil ?_
                              refine to_next ?_
                              refine hits_cond rfl (fun c14 => ?_) (fun c14 => ?_)
                              case refine_1 => exact absurd c14 Bool.false_ne_true
                              case refine_2 =>
                                refine hits_seq ?_
                                refine hits_region ?_
                                refine sq (f_mkIface rfl nif106 (lt rfl)) rfl rfl ?_
                                refine sq (f_assign rfl (lt rfl)) rfl rfl ?_
                                refine sq (f_assign rfl (lt rfl)) rfl rfl ?_
                                refine hits_nil ?_
                                refine to_next ?_
                                refine hits_ret ?_
                                refine in_ret ?_
                                refine to_ret ?_
                                refine in_ret ?_
                                refine to_ret ?_
                                refine to_ret ?_
                                refine in_ret ?_
                                refine to_ret ?_
                                exact hits_done (.inl rfl) rfl rfl (by rw [hJ, hdrop, pu_bad (dig_no h1 h2)]; rfl)
                            · refine hits_region ?_
                              refine sq (f_move rfl (lt rfl)) rfl rfl ?_
                              refine sq (f_call en91 rfl (low_c hc) (lt rfl)) rfl rfl ?_
                              refine sq (f_bin rfl rfl (bT (decide_eq_false (by omega))) (lt rfl)) rfl rfl ?_
                              refine sq (f_move rfl (lt rfl)) rfl rfl ?_
                              refine sq_no rfl rfl rfl rfl rfl (lt rfl) (lt rfl) ?_
                              refine sq_no rfl rfl rfl rfl rfl (lt rfl) (lt rfl) ?_
                              refine sq_no rfl rfl rfl rfl rfl (lt rfl) (lt rfl) ?_
                              refine sq (f_pick rfl rfl (lt rfl)) rfl rfl ?_
                              refine sq (f_assign rfl (lt rfl)) rfl rfl ?_
                              refine hits_nil ?_
                              refine to_next ?_
                              refine hits_cond rfl (fun c14 => ?_) (fun c14 => ?_)
                              case refine_1 => exact absurd c14 Bool.false_ne_true
                              case refine_2 =>
                                refine hits_seq ?_
                                refine hits_region ?_
                                refine sq (f_mkIface rfl nif106 (lt rfl)) rfl rfl ?_
                                refine sq (f_assign rfl (lt rfl)) rfl rfl ?_
                                refine sq (f_assign rfl (lt rfl)) rfl rfl ?_
                                refine hits_nil ?_
                                refine to_next ?_
                                refine hits_ret ?_
                                refine in_ret ?_
                                refine to_ret ?_
                                refine in_ret ?_
                                refine to_ret ?_
                                refine to_ret ?_
                                refine in_ret ?_
                                refine to_ret ?_
                                exact hits_done (.inl rfl) rfl rfl (by rw [hJ, hdrop, pu_bad (dig_no h1 h2)]; rfl)
              · refine hits_exit ?_
                refine to_exit ?_
                refine to_exit ?_
                refine in_hit rfl ?_
                refine to_next ?_
                refine hits_seq ?_
                refine hits_seq ?_
                have hend : i = s.size := by have := of_decide_eq_false c11; rw [bytesL_length] at this; omega
                have hall : pu16 0 s.data.toList = (n, 0) := by rw [hJ, List.drop_eq_nil_of_le (by simp; omega)]; rfl
                refine hits_region ?_
                refine sq (f_move rfl (lt rfl)) rfl rfl ?_
                refine sq (f_move rfl (lt rfl)) rfl rfl ?_
                refine sq_no rfl rfl rfl rfl rfl (lt rfl) (lt rfl) ?_
                refine sq_no rfl rfl rfl rfl rfl (lt rfl) (lt rfl) ?_
                refine sq_no rfl rfl rfl rfl rfl (lt rfl) (lt rfl) ?_
                refine sq (f_pick rfl rfl (lt rfl)) rfl rfl ?_
                refine hits_nil ?_
                refine to_next ?_
                refine hits_cond rfl (fun c18 => ?_) (fun c18 => ?_)
                case refine_1 => exact absurd c18 Bool.false_ne_true
                case refine_2 =>
                  refine hits_skip ?_
                  refine to_next ?_
                  refine hits_seq ?_
                  refine hits_region ?_
                  refine sq (f_move rfl (lt rfl)) rfl rfl ?_
                  refine sq (f_assign rfl (lt rfl)) rfl rfl ?_
                  refine sq (f_assign rfl (lt rfl)) rfl rfl ?_
                  refine hits_nil ?_
                  refine to_next ?_
                  refine hits_ret ?_
                  exact hits_done (.inl rfl) rfl rfl (by rw [hall]; rfl)

theorem pu_c (s : ByteArray) (hs : s.size ≤ 281474976710656) : CallsP Tryd.prog Errs 74 [.sc (.string s), .sc (.int .i64 16), .sc (.int .i64 64)] (puD (puOf s)) := by
  unfold puOf
  by_cases h : s.size = 0
  · rw [if_pos h]
    obtain rfl : s = ⟨#[]⟩ := by cases s; rename_i a; congr 1; exact Array.eq_empty_of_size_eq_zero h
    exact pu_none
  · rw [if_neg h]; exact pu_some s hs h

theorem pu_err (s : ByteArray) : (puOf s).2 = 0 ∨ (puOf s).2 = 1 ∨ (puOf s).2 = 2 := by
  unfold puOf
  split
  · exact .inr (.inr rfl)
  · generalize s.data.toList = l
    have : ∀ n, (pu16 n l).2 = 0 ∨ (pu16 n l).2 = 1 ∨ (pu16 n l).2 = 2 := by
      induction l with
      | nil => intro n; exact .inl rfl
      | cons c l ih =>
        intro n
        unfold pu16
        split
        · exact .inr (.inr rfl)
        · split
          · exact .inr (.inr rfl)
          · split
            · exact .inr (.inl rfl)
            · exact ih _
    exact this 0

set_option maxRecDepth 100000 in
theorem spu_ok (s : ByteArray) (hs : s.size ≤ 281474976710656) {n : Nat} (h : puOf s = (n, 0)) : CallsP Tryd.prog Errs 38 [.sc (.string s), .sc (.int .i64 16), .sc (.int .i64 64)] (.tup [.sc (.int .u64 (n : Int)), .sc .nilIface]) := by
  have hp := pu_c s hs
  rw [h] at hp
  refine callsP_of gs_errs Tryd.func38 rfl Tryd.ntmps38 rfl fun w0 S0 stab => ?_
  refine hits_seq ?_
  refine hits_region ?_
  refine sq (f_assign rfl (lt rfl)) rfl rfl ?_
  refine sq (f_assign rfl (lt rfl)) rfl rfl ?_
  refine hits_nil ?_
  refine to_next ?_
  refine hits_seq ?_
  refine hits_region ?_
  refine sq (f_move rfl (lt rfl)) rfl rfl ?_
  refine sq (f_move rfl (lt rfl)) rfl rfl ?_
  refine sq (f_move rfl (lt rfl)) rfl rfl ?_
  refine sq (f_call en74 rfl hp (lt rfl)) rfl rfl ?_
  refine sq (f_move rfl (lt rfl)) rfl rfl ?_
  refine sq (f_extract rfl rfl (lt rfl)) rfl rfl ?_
  refine sq (f_extract rfl rfl (lt rfl)) rfl rfl ?_
  refine sq (f_assign rfl (lt rfl)) rfl rfl ?_
  refine sq (f_assign rfl (lt rfl)) rfl rfl ?_
  refine hits_nil ?_
  refine to_next ?_
  refine hits_seq ?_
  refine hits_seq ?_
  refine hits_region ?_
  refine sq (f_move rfl (lt rfl)) rfl rfl ?_
  refine sq (f_ifNe0 rfl isf73 (lt rfl)) rfl rfl ?_
  refine hits_nil ?_
  refine to_next ?_
  refine hits_cond rfl (fun c0 => ?_) (fun c0 => ?_)
  case refine_1 => exact absurd c0 Bool.false_ne_true
  case refine_2 =>
    refine hits_skip ?_
    refine to_next ?_
    refine hits_seq ?_
    refine hits_region ?_
    refine sq (f_move rfl (lt rfl)) rfl rfl ?_
    refine sq (f_assign rfl (lt rfl)) rfl rfl ?_
    refine sq (f_assign rfl (lt rfl)) rfl rfl ?_
    refine hits_nil ?_
    refine to_next ?_
    refine hits_ret ?_
    exact hits_done (.inl rfl) rfl rfl rfl

set_option maxRecDepth 100000 in
theorem spu_err (s : ByteArray) (hs : s.size ≤ 281474976710656) {n k : Nat} (h : puOf s = (n, k + 1)) (hk : k + 1 = 1 ∨ k + 1 = 2) : CallsP Tryd.prog Errs 38 [.sc (.string s), .sc (.int .i64 16), .sc (.int .i64 64)] (.tup [.sc (.int .u64 (n : Int)), .any]) := by
  have hp := pu_c s hs
  rw [h] at hp
  refine callsP_of gs_errs Tryd.func38 rfl Tryd.ntmps38 rfl fun w0 S0 stab => ?_
  refine hits_seq ?_
  refine hits_region ?_
  refine sq (f_assign rfl (lt rfl)) rfl rfl ?_
  refine sq (f_assign rfl (lt rfl)) rfl rfl ?_
  refine hits_nil ?_
  refine to_next ?_
  refine hits_seq ?_
  refine hits_region ?_
  refine sq (f_move rfl (lt rfl)) rfl rfl ?_
  refine sq (f_move rfl (lt rfl)) rfl rfl ?_
  refine sq (f_move rfl (lt rfl)) rfl rfl ?_
  refine sq (f_call en74 rfl hp (lt rfl)) rfl rfl ?_
  refine sq (f_move rfl (lt rfl)) rfl rfl ?_
  refine sq (f_extract rfl rfl (lt rfl)) rfl rfl ?_
  refine sq (f_extract rfl rfl (lt rfl)) rfl rfl ?_
  refine sq (f_assign rfl (lt rfl)) rfl rfl ?_
  refine sq (f_assign rfl (lt rfl)) rfl rfl ?_
  refine hits_nil ?_
  refine to_next ?_
  refine hits_seq ?_
  refine hits_seq ?_
  refine hits_region ?_
  refine sq (f_move rfl (lt rfl)) rfl rfl ?_
  refine sq (f_ifNe rfl isf73 (lt rfl)) rfl rfl ?_
  refine hits_nil ?_
  refine to_next ?_
  refine hits_cond rfl (fun c0 => ?_) (fun c0 => ?_)
  case refine_2 => exact absurd c0 Bool.false_ne_true.symm
  case refine_1 =>
    refine hits_seq ?_
    refine hits_region ?_
    refine sq (f_move rfl (lt rfl)) rfl rfl ?_
    refine sq (f_move rfl (lt rfl)) rfl rfl ?_
    refine sq (f_move rfl (lt rfl)) rfl rfl ?_
    refine sq (f_move rfl (lt rfl)) rfl rfl ?_
    refine sq (f_move rfl (lt rfl)) rfl rfl ?_
    refine sq (f_call en73 rfl (toErr_c ⟨#[80, 97, 114, 115, 101, 85, 105, 110, 116]⟩ s 16 64 (k + 1) hk hs) (lt rfl)) rfl rfl ?_
    refine sq (f_assign rfl (lt rfl)) rfl rfl ?_
    refine sq (f_assign rfl (lt rfl)) rfl rfl ?_
    refine hits_nil ?_
    refine to_next ?_
    refine hits_ret ?_
    refine to_ret ?_
    exact hits_done (.inl rfl) rfl rfl rfl

theorem spu_c (s : ByteArray) (hs : s.size ≤ 281474976710656) : ∃ r, CallsP Tryd.prog Errs 38 [.sc (.string s), .sc (.int .i64 16), .sc (.int .i64 64)] (.tup [.sc (.int .u64 ((puOf s).1 : Int)), r]) := by
  cases h : puOf s with
  | mk n k =>
    cases k with
    | zero => exact ⟨_, spu_ok s hs h⟩
    | succ k => exact ⟨_, spu_err s hs h (by have := pu_err s; rw [h] at this; simp at this; omega)⟩

end Go.Proofs.YthhlnghpbjmfpaaDoor.AbBits


namespace Go.Proofs.YthhlnghpbjmfpaaDoor.AbBits
open Go Go.RowKit Go.Ab Go.Proofs Go.Proofs.YthhlnghpbjmfpaaDoor Go.Proofs.YthhlnghpbjmfpaaDoor.PTryd Go.Proofs.YthhlnghpbjmfpaaDoor.PTrydFns Go.Proofs.YthhlnghpbjmfpaaDoor.BitsMath Go.Proofs.YthhlnghpbjmfpaaDoor.Press
set_option linter.unusedVariables false
set_option linter.unusedSimpArgs false
theorem en36 : enters Tryd.prog 36 = true := by kernel_rfl
theorem en37 : enters Tryd.prog 37 = true := by kernel_rfl
theorem en38 : enters Tryd.prog 38 = true := by kernel_rfl
theorem ext_le (s : ByteArray) (i j : Nat) : (s.extract i j).size ≤ s.size := by rw [ByteArray.size_extract]; omega
theorem cutA_le (s : ByteArray) : (cutA s).size ≤ s.size := by unfold cutA; split; exact ext_le _ _ _; exact Nat.le_refl _
theorem cutB_le (s : ByteArray) : (cutB s).size ≤ s.size := by unfold cutB; split; exact ext_le _ _ _; exact Nat.zero_le _
theorem pu16_lt : ∀ (l : List UInt8) (n : Nat), n < 18446744073709551616 → (pu16 n l).1 < 18446744073709551616
  | [], n, h => h
  | c :: l, n, h => by
    unfold pu16
    split
    · decide
    · rename_i d hd
      split
      · decide
      · split
        · decide
        · exact pu16_lt l _ (by omega)
theorem puOf_lt (s : ByteArray) : (puOf s).1 < 18446744073709551616 := by
  unfold puOf
  split
  · decide
  · exact pu16_lt _ _ (by decide)
/-- What bits.Parse reads: the width, the words. -/
def pW (s : ByteArray) : Int := atoiN (cutA s)
def pL (s : ByteArray) : Nat := (puOf ((cutB s).extract ((cutB s).size - 16) (cutB s).size)).1
def pH (s : ByteArray) : Nat := (puOf ((cutB s).extract 0 ((cutB s).size - 16))).1
def pV (s : ByteArray) : Nat := pH s * 18446744073709551616 + pL s
theorem pV_lt (s : ByteArray) : pV s < 2 ^ 128 := by
  have h1 : pL s < 18446744073709551616 := puOf_lt _
  have h2 : pH s < 18446744073709551616 := puOf_lt _
  unfold pV; omega
theorem pV_hi (s : ByteArray) : hiOf (pV s) = (pH s : Int) := by
  have h1 : pL s < 18446744073709551616 := puOf_lt _
  unfold hiOf pV; omega
theorem pV_lo (s : ByteArray) : loOf (pV s) = (pL s : Int) := by
  have h1 : pL s < 18446744073709551616 := puOf_lt _
  unfold loOf pV; omega
def Yes (s : ByteArray) : Prop := ∃ w : Nat, pW s = (w : Int) ∧ 1 ≤ w ∧ w ≤ 128 ∧ pV s < 2 ^ w ∧ textB w (pV s) = s
theorem f_maxI {P : Program} {E : Env} {st : St} {d : Nat} {x y : Operand} {ty : TypeId} {pos : String} {af : Array Edge} {g : Option (Nat × Bool)} {t1 t2 : TypeId} {k : IntKind} {p q r : Int} (hx : ev st x = some (.d (.sc (.int k p)))) (hy : ev st y = some (.d (.sc (.int k q)))) (hr : (if q > p then q else p) = r) (hd : d < E.N) :
    FOk P E ⟨some d, .call ⟨.builtin .max, #[x, y], #[t1, t2]⟩, ty, pos, af, g⟩ st (evL x ++ evL y) [] [(.slot d, some (.d (.sc (.int k r))))] := by subst hr; exact f_max hx hy hd
theorem str_ne {s t : ByteArray} (h : s ≠ t) : (!(s.toList == t.toList)) = true := by rw [str_beq, decide_eq_false h]; rfl
theorem str_ne0 {s t : ByteArray} (h : s = t) : (!(s.toList == t.toList)) = false := by rw [str_beq, decide_eq_true h]; rfl

set_option maxRecDepth 100000 in
theorem parse_yes (s : ByteArray) (hs : s.size ≤ 281474976710656) (h : Yes s) : CallsP Tryd.prog Errs 19 [.sc (.string s)] (.tup [.agg [.sc (.int .i64 (pW s)), .sc (.int .u64 (pH s : Int)), .sc (.int .u64 (pL s : Int))], .sc (.int .i64 0)]) := by
  have hA := cutA_le s
  have hB := cutB_le s
  have hat := atoi_c (cutA s) (by omega)
  obtain ⟨r1, hr1⟩ := spu_c ((cutB s).extract ((cutB s).size - 16) (cutB s).size) (Nat.le_trans (ext_le _ _ _) (by omega))
  obtain ⟨r2, hr2⟩ := spu_c ((cutB s).extract 0 ((cutB s).size - 16)) (Nat.le_trans (ext_le _ _ _) (by omega))
  obtain ⟨w, h1, h2, h3, h4, h5⟩ := h
  have ht := up (text_c h2 h3 h4)
  unfold bitD at ht
  rw [pV_hi, pV_lo, ← h1, h5] at ht
  refine callsP_of gs_errs Tryd.func19 rfl Tryd.ntmps19 rfl fun w0 S0 stab => ?_
  refine hits_seq ?_
  refine hits_region ?_
  refine sq (f_alloc zc27 (lt rfl)) rfl rfl ?_
  refine sq (f_assign rfl (lt rfl)) rfl rfl ?_
  refine hits_nil ?_
  refine to_next ?_
  refine hits_seq ?_
  refine hits_region ?_
  refine sq (f_move rfl (lt rfl)) rfl rfl ?_
  refine sq (f_call en36 rfl (cut_w s hs) (lt rfl)) rfl rfl ?_
  refine sq (f_move rfl (lt rfl)) rfl rfl ?_
  refine sq (f_extract rfl rfl (lt rfl)) rfl rfl ?_
  refine sq (f_extract rfl rfl (lt rfl)) rfl rfl ?_
  refine sq (f_extract rfl rfl (lt rfl)) rfl rfl ?_
  refine sq (f_assign rfl (lt rfl)) rfl rfl ?_
  refine sq (f_assign rfl (lt rfl)) rfl rfl ?_
  refine sq (f_assign rfl (lt rfl)) rfl rfl ?_
  refine hits_nil ?_
  refine to_next ?_
  refine hits_seq ?_
  refine hits_region ?_
  refine sq (f_alloc zc27 (lt rfl)) rfl rfl ?_
  refine hits_nil ?_
  refine to_next ?_
  refine hits_seq ?_
  refine hits_region ?_
  refine sq (f_move rfl (lt rfl)) rfl rfl ?_
  refine sq (f_call en37 rfl hat (lt rfl)) rfl rfl ?_
  refine sq (f_move rfl (lt rfl)) rfl rfl ?_
  refine sq (f_extract rfl rfl (lt rfl)) rfl rfl ?_
  refine sq (f_extract rfl rfl (lt rfl)) rfl rfl ?_
  refine sq (f_fieldAddr rfl kf27_0 rfl (lt rfl)) rfl rfl ?_
  refine sq (f_store kd3 rfl rfl rfl rfl rfl) rfl rfl ?_
  refine hits_nil ?_
  refine to_next ?_
  refine hits_seq ?_
  refine hits_region ?_
  refine sq (f_move rfl (lt rfl)) rfl rfl ?_
  refine sq (f_lenStr rfl un9 (lt rfl)) rfl rfl ?_
  refine sq (f_bin rfl rfl (iT ((IntWalk.i64_in _ (by omega) : _ = ((cutB s).size : Int) - 16))) (lt rfl)) rfl rfl ?_
  refine sq (f_maxI rfl rfl (by split <;> omega : _ = (((cutB s).size - 16 : Nat) : Int)) (lt rfl)) rfl rfl ?_
  refine sq (f_assign rfl (lt rfl)) rfl rfl ?_
  refine hits_nil ?_
  refine to_next ?_
  refine hits_seq ?_
  refine hits_region ?_
  refine sq (f_move rfl (lt rfl)) rfl rfl ?_
  refine sq (f_move rfl (lt rfl)) rfl rfl ?_
  refine sq (f_sliceStr rfl rfl rfl un9 (by omega) (by omega) (by omega) (lt rfl)) rfl rfl ?_
  refine sq (f_call en38 rfl hr1 (lt rfl)) rfl rfl ?_
  refine sq (f_move rfl (lt rfl)) rfl rfl ?_
  refine sq (f_extract rfl rfl (lt rfl)) rfl rfl ?_
  refine sq (f_extract rfl rfl (lt rfl)) rfl rfl ?_
  refine sq (f_fieldAddr rfl kf27_2 rfl (lt rfl)) rfl rfl ?_
  refine sq (f_store kd22 rfl rfl rfl rfl rfl) rfl rfl ?_
  refine hits_nil ?_
  refine to_next ?_
  refine hits_seq ?_
  refine hits_region ?_
  refine sq (f_move rfl (lt rfl)) rfl rfl ?_
  refine sq (f_move rfl (lt rfl)) rfl rfl ?_
  refine sq (f_sliceStr rfl rfl rfl un9 (by omega) (by omega) (by omega) (lt rfl)) rfl rfl ?_
  refine sq (f_call en38 rfl hr2 (lt rfl)) rfl rfl ?_
  refine sq (f_move rfl (lt rfl)) rfl rfl ?_
  refine sq (f_extract rfl rfl (lt rfl)) rfl rfl ?_
  refine sq (f_extract rfl rfl (lt rfl)) rfl rfl ?_
  refine sq (f_fieldAddr rfl kf27_1 rfl (lt rfl)) rfl rfl ?_
  refine sq (f_store kd22 rfl rfl rfl rfl rfl) rfl rfl ?_
  refine hits_nil ?_
  refine to_next ?_
  refine hits_seq ?_
  refine hits_seq ?_
  refine hits_region ?_
  refine sq (f_load kd27 rfl rfl (lt rfl)) rfl rfl ?_
  refine sq (f_call en17 rfl ht (lt rfl)) rfl rfl ?_
  refine sq (f_move rfl (lt rfl)) rfl rfl ?_
  refine sq (f_extract rfl rfl (lt rfl)) rfl rfl ?_
  refine sq (f_extract rfl rfl (lt rfl)) rfl rfl ?_
  refine sq (f_assign rfl (lt rfl)) rfl rfl ?_
  refine sq (f_assign rfl (lt rfl)) rfl rfl ?_
  refine hits_nil ?_
  refine to_next ?_
  refine hits_seq ?_
  refine hits_region ?_
  refine sq (f_move rfl (lt rfl)) rfl rfl ?_
  refine sq (f_bin rfl rfl (bT (b' := false) rfl) (lt rfl)) rfl rfl ?_
  refine sq (f_move rfl (lt rfl)) rfl rfl ?_
  refine sq_yes (f_move rfl (lt rfl)) rfl rfl rfl rfl (lt rfl) ?_
  refine sq_yes (f_move rfl (lt rfl)) rfl rfl rfl rfl (lt rfl) ?_
  refine sq_yes (f_bin rfl rfl (bT (str_ne0 rfl)) (lt rfl)) rfl rfl rfl rfl (lt rfl) ?_
  refine sq (f_pick rfl rfl (lt rfl)) rfl rfl ?_
  refine hits_nil ?_
  refine to_next ?_
  refine hits_cond rfl (fun c0 => ?_) (fun c0 => ?_)
  case refine_1 => exact absurd c0 Bool.false_ne_true
  case refine_2 =>
    refine hits_skip ?_
    refine to_next ?_
    refine hits_seq ?_
    refine hits_region ?_
    refine sq (f_load kd27 rfl rfl (lt rfl)) rfl rfl ?_
    refine sq (f_store kd27 rfl rfl rfl rfl rfl) rfl rfl ?_
    refine sq (f_assign rfl (lt rfl)) rfl rfl ?_
    refine hits_nil ?_
    refine to_next ?_
    refine hits_ret ?_
    exact hits_done (.inl rfl) rfl rfl rfl

set_option maxRecDepth 100000 in
theorem parse_bad (s : ByteArray) (hs : s.size ≤ 281474976710656) (h : PTryd.bits_Check.f (pW s) (pH s) (pL s) = some false) : CallsP Tryd.prog Errs 19 [.sc (.string s)] (.tup [.agg [.sc (.int .i64 0), .sc (.int .u64 0), .sc (.int .u64 0)], .sc (.int .i64 8)]) := by
  have hA := cutA_le s
  have hB := cutB_le s
  have hat := atoi_c (cutA s) (by omega)
  obtain ⟨r1, hr1⟩ := spu_c ((cutB s).extract ((cutB s).size - 16) (cutB s).size) (Nat.le_trans (ext_le _ _ _) (by omega))
  obtain ⟨r2, hr2⟩ := spu_c ((cutB s).extract 0 ((cutB s).size - 16)) (Nat.le_trans (ext_le _ _ _) (by omega))
  have ht := up (text_no h)
  refine callsP_of gs_errs Tryd.func19 rfl Tryd.ntmps19 rfl fun w0 S0 stab => ?_
  refine hits_seq ?_
  refine hits_region ?_
  refine sq (f_alloc zc27 (lt rfl)) rfl rfl ?_
  refine sq (f_assign rfl (lt rfl)) rfl rfl ?_
  refine hits_nil ?_
  refine to_next ?_
  refine hits_seq ?_
  refine hits_region ?_
  refine sq (f_move rfl (lt rfl)) rfl rfl ?_
  refine sq (f_call en36 rfl (cut_w s hs) (lt rfl)) rfl rfl ?_
  refine sq (f_move rfl (lt rfl)) rfl rfl ?_
  refine sq (f_extract rfl rfl (lt rfl)) rfl rfl ?_
  refine sq (f_extract rfl rfl (lt rfl)) rfl rfl ?_
  refine sq (f_extract rfl rfl (lt rfl)) rfl rfl ?_
  refine sq (f_assign rfl (lt rfl)) rfl rfl ?_
  refine sq (f_assign rfl (lt rfl)) rfl rfl ?_
  refine sq (f_assign rfl (lt rfl)) rfl rfl ?_
  refine hits_nil ?_
  refine to_next ?_
  refine hits_seq ?_
  refine hits_region ?_
  refine sq (f_alloc zc27 (lt rfl)) rfl rfl ?_
  refine hits_nil ?_
  refine to_next ?_
  refine hits_seq ?_
  refine hits_region ?_
  refine sq (f_move rfl (lt rfl)) rfl rfl ?_
  refine sq (f_call en37 rfl hat (lt rfl)) rfl rfl ?_
  refine sq (f_move rfl (lt rfl)) rfl rfl ?_
  refine sq (f_extract rfl rfl (lt rfl)) rfl rfl ?_
  refine sq (f_extract rfl rfl (lt rfl)) rfl rfl ?_
  refine sq (f_fieldAddr rfl kf27_0 rfl (lt rfl)) rfl rfl ?_
  refine sq (f_store kd3 rfl rfl rfl rfl rfl) rfl rfl ?_
  refine hits_nil ?_
  refine to_next ?_
  refine hits_seq ?_
  refine hits_region ?_
  refine sq (f_move rfl (lt rfl)) rfl rfl ?_
  refine sq (f_lenStr rfl un9 (lt rfl)) rfl rfl ?_
  refine sq (f_bin rfl rfl (iT ((IntWalk.i64_in _ (by omega) : _ = ((cutB s).size : Int) - 16))) (lt rfl)) rfl rfl ?_
  refine sq (f_maxI rfl rfl (by split <;> omega : _ = (((cutB s).size - 16 : Nat) : Int)) (lt rfl)) rfl rfl ?_
  refine sq (f_assign rfl (lt rfl)) rfl rfl ?_
  refine hits_nil ?_
  refine to_next ?_
  refine hits_seq ?_
  refine hits_region ?_
  refine sq (f_move rfl (lt rfl)) rfl rfl ?_
  refine sq (f_move rfl (lt rfl)) rfl rfl ?_
  refine sq (f_sliceStr rfl rfl rfl un9 (by omega) (by omega) (by omega) (lt rfl)) rfl rfl ?_
  refine sq (f_call en38 rfl hr1 (lt rfl)) rfl rfl ?_
  refine sq (f_move rfl (lt rfl)) rfl rfl ?_
  refine sq (f_extract rfl rfl (lt rfl)) rfl rfl ?_
  refine sq (f_extract rfl rfl (lt rfl)) rfl rfl ?_
  refine sq (f_fieldAddr rfl kf27_2 rfl (lt rfl)) rfl rfl ?_
  refine sq (f_store kd22 rfl rfl rfl rfl rfl) rfl rfl ?_
  refine hits_nil ?_
  refine to_next ?_
  refine hits_seq ?_
  refine hits_region ?_
  refine sq (f_move rfl (lt rfl)) rfl rfl ?_
  refine sq (f_move rfl (lt rfl)) rfl rfl ?_
  refine sq (f_sliceStr rfl rfl rfl un9 (by omega) (by omega) (by omega) (lt rfl)) rfl rfl ?_
  refine sq (f_call en38 rfl hr2 (lt rfl)) rfl rfl ?_
  refine sq (f_move rfl (lt rfl)) rfl rfl ?_
  refine sq (f_extract rfl rfl (lt rfl)) rfl rfl ?_
  refine sq (f_extract rfl rfl (lt rfl)) rfl rfl ?_
  refine sq (f_fieldAddr rfl kf27_1 rfl (lt rfl)) rfl rfl ?_
  refine sq (f_store kd22 rfl rfl rfl rfl rfl) rfl rfl ?_
  refine hits_nil ?_
  refine to_next ?_
  refine hits_seq ?_
  refine hits_seq ?_
  refine hits_region ?_
  refine sq (f_load kd27 rfl rfl (lt rfl)) rfl rfl ?_
  refine sq (f_call en17 rfl ht (lt rfl)) rfl rfl ?_
  refine sq (f_move rfl (lt rfl)) rfl rfl ?_
  refine sq (f_extract rfl rfl (lt rfl)) rfl rfl ?_
  refine sq (f_extract rfl rfl (lt rfl)) rfl rfl ?_
  refine sq (f_assign rfl (lt rfl)) rfl rfl ?_
  refine sq (f_assign rfl (lt rfl)) rfl rfl ?_
  refine hits_nil ?_
  refine to_next ?_
  refine hits_seq ?_
  refine hits_region ?_
  refine sq (f_move rfl (lt rfl)) rfl rfl ?_
  refine sq (f_bin rfl rfl (bT (b' := true) rfl) (lt rfl)) rfl rfl ?_
  refine sq (f_move rfl (lt rfl)) rfl rfl ?_
  refine sq_no rfl rfl rfl rfl rfl (lt rfl) (lt rfl) ?_
  refine sq_no rfl rfl rfl rfl rfl (lt rfl) (lt rfl) ?_
  refine sq_no rfl rfl rfl rfl rfl (lt rfl) (lt rfl) ?_
  refine sq (f_pick rfl rfl (lt rfl)) rfl rfl ?_
  refine hits_nil ?_
  refine to_next ?_
  refine hits_cond rfl (fun c0 => ?_) (fun c0 => ?_)
  case refine_2 => exact absurd c0 Bool.false_ne_true.symm
  case refine_1 =>
    refine hits_seq ?_
    refine hits_region ?_
    refine sq (f_build bu27 rfl rfl (lt rfl)) rfl rfl ?_
    refine sq (f_store kd27 rfl rfl rfl rfl rfl) rfl rfl ?_
    refine sq (f_assign rfl (lt rfl)) rfl rfl ?_
    refine hits_nil ?_
    refine to_next ?_
    refine hits_ret ?_
    refine to_ret ?_
    exact hits_done (.inl rfl) rfl rfl rfl

set_option maxRecDepth 100000 in
theorem parse_ne (s : ByteArray) (hs : s.size ≤ 281474976710656) {w : Nat} (h1 : pW s = (w : Int)) (h2 : 1 ≤ w) (h3 : w ≤ 128) (h4 : pV s < 2 ^ w) (h5 : textB w (pV s) ≠ s) : CallsP Tryd.prog Errs 19 [.sc (.string s)] (.tup [.agg [.sc (.int .i64 0), .sc (.int .u64 0), .sc (.int .u64 0)], .sc (.int .i64 8)]) := by
  have hA := cutA_le s
  have hB := cutB_le s
  have hat := atoi_c (cutA s) (by omega)
  obtain ⟨r1, hr1⟩ := spu_c ((cutB s).extract ((cutB s).size - 16) (cutB s).size) (Nat.le_trans (ext_le _ _ _) (by omega))
  obtain ⟨r2, hr2⟩ := spu_c ((cutB s).extract 0 ((cutB s).size - 16)) (Nat.le_trans (ext_le _ _ _) (by omega))
  have ht := up (text_c h2 h3 h4)
  unfold bitD at ht
  rw [pV_hi, pV_lo, ← h1] at ht
  refine callsP_of gs_errs Tryd.func19 rfl Tryd.ntmps19 rfl fun w0 S0 stab => ?_
  refine hits_seq ?_
  refine hits_region ?_
  refine sq (f_alloc zc27 (lt rfl)) rfl rfl ?_
  refine sq (f_assign rfl (lt rfl)) rfl rfl ?_
  refine hits_nil ?_
  refine to_next ?_
  refine hits_seq ?_
  refine hits_region ?_
  refine sq (f_move rfl (lt rfl)) rfl rfl ?_
  refine sq (f_call en36 rfl (cut_w s hs) (lt rfl)) rfl rfl ?_
  refine sq (f_move rfl (lt rfl)) rfl rfl ?_
  refine sq (f_extract rfl rfl (lt rfl)) rfl rfl ?_
  refine sq (f_extract rfl rfl (lt rfl)) rfl rfl ?_
  refine sq (f_extract rfl rfl (lt rfl)) rfl rfl ?_
  refine sq (f_assign rfl (lt rfl)) rfl rfl ?_
  refine sq (f_assign rfl (lt rfl)) rfl rfl ?_
  refine sq (f_assign rfl (lt rfl)) rfl rfl ?_
  refine hits_nil ?_
  refine to_next ?_
  refine hits_seq ?_
  refine hits_region ?_
  refine sq (f_alloc zc27 (lt rfl)) rfl rfl ?_
  refine hits_nil ?_
  refine to_next ?_
  refine hits_seq ?_
  refine hits_region ?_
  refine sq (f_move rfl (lt rfl)) rfl rfl ?_
  refine sq (f_call en37 rfl hat (lt rfl)) rfl rfl ?_
  refine sq (f_move rfl (lt rfl)) rfl rfl ?_
  refine sq (f_extract rfl rfl (lt rfl)) rfl rfl ?_
  refine sq (f_extract rfl rfl (lt rfl)) rfl rfl ?_
  refine sq (f_fieldAddr rfl kf27_0 rfl (lt rfl)) rfl rfl ?_
  refine sq (f_store kd3 rfl rfl rfl rfl rfl) rfl rfl ?_
  refine hits_nil ?_
  refine to_next ?_
  refine hits_seq ?_
  refine hits_region ?_
  refine sq (f_move rfl (lt rfl)) rfl rfl ?_
  refine sq (f_lenStr rfl un9 (lt rfl)) rfl rfl ?_
  refine sq (f_bin rfl rfl (iT ((IntWalk.i64_in _ (by omega) : _ = ((cutB s).size : Int) - 16))) (lt rfl)) rfl rfl ?_
  refine sq (f_maxI rfl rfl (by split <;> omega : _ = (((cutB s).size - 16 : Nat) : Int)) (lt rfl)) rfl rfl ?_
  refine sq (f_assign rfl (lt rfl)) rfl rfl ?_
  refine hits_nil ?_
  refine to_next ?_
  refine hits_seq ?_
  refine hits_region ?_
  refine sq (f_move rfl (lt rfl)) rfl rfl ?_
  refine sq (f_move rfl (lt rfl)) rfl rfl ?_
  refine sq (f_sliceStr rfl rfl rfl un9 (by omega) (by omega) (by omega) (lt rfl)) rfl rfl ?_
  refine sq (f_call en38 rfl hr1 (lt rfl)) rfl rfl ?_
  refine sq (f_move rfl (lt rfl)) rfl rfl ?_
  refine sq (f_extract rfl rfl (lt rfl)) rfl rfl ?_
  refine sq (f_extract rfl rfl (lt rfl)) rfl rfl ?_
  refine sq (f_fieldAddr rfl kf27_2 rfl (lt rfl)) rfl rfl ?_
  refine sq (f_store kd22 rfl rfl rfl rfl rfl) rfl rfl ?_
  refine hits_nil ?_
  refine to_next ?_
  refine hits_seq ?_
  refine hits_region ?_
  refine sq (f_move rfl (lt rfl)) rfl rfl ?_
  refine sq (f_move rfl (lt rfl)) rfl rfl ?_
  refine sq (f_sliceStr rfl rfl rfl un9 (by omega) (by omega) (by omega) (lt rfl)) rfl rfl ?_
  refine sq (f_call en38 rfl hr2 (lt rfl)) rfl rfl ?_
  refine sq (f_move rfl (lt rfl)) rfl rfl ?_
  refine sq (f_extract rfl rfl (lt rfl)) rfl rfl ?_
  refine sq (f_extract rfl rfl (lt rfl)) rfl rfl ?_
  refine sq (f_fieldAddr rfl kf27_1 rfl (lt rfl)) rfl rfl ?_
  refine sq (f_store kd22 rfl rfl rfl rfl rfl) rfl rfl ?_
  refine hits_nil ?_
  refine to_next ?_
  refine hits_seq ?_
  refine hits_seq ?_
  refine hits_region ?_
  refine sq (f_load kd27 rfl rfl (lt rfl)) rfl rfl ?_
  refine sq (f_call en17 rfl ht (lt rfl)) rfl rfl ?_
  refine sq (f_move rfl (lt rfl)) rfl rfl ?_
  refine sq (f_extract rfl rfl (lt rfl)) rfl rfl ?_
  refine sq (f_extract rfl rfl (lt rfl)) rfl rfl ?_
  refine sq (f_assign rfl (lt rfl)) rfl rfl ?_
  refine sq (f_assign rfl (lt rfl)) rfl rfl ?_
  refine hits_nil ?_
  refine to_next ?_
  refine hits_seq ?_
  refine hits_region ?_
  refine sq (f_move rfl (lt rfl)) rfl rfl ?_
  refine sq (f_bin rfl rfl (bT (b' := false) rfl) (lt rfl)) rfl rfl ?_
  refine sq (f_move rfl (lt rfl)) rfl rfl ?_
  refine sq_yes (f_move rfl (lt rfl)) rfl rfl rfl rfl (lt rfl) ?_
  refine sq_yes (f_move rfl (lt rfl)) rfl rfl rfl rfl (lt rfl) ?_
  refine sq_yes (f_bin rfl rfl (bT (str_ne h5)) (lt rfl)) rfl rfl rfl rfl (lt rfl) ?_
  refine sq (f_pick rfl rfl (lt rfl)) rfl rfl ?_
  refine hits_nil ?_
  refine to_next ?_
  refine hits_cond rfl (fun c0 => ?_) (fun c0 => ?_)
  case refine_2 => exact absurd c0 Bool.false_ne_true.symm
  case refine_1 =>
    refine hits_seq ?_
    refine hits_region ?_
    refine sq (f_build bu27 rfl rfl (lt rfl)) rfl rfl ?_
    refine sq (f_store kd27 rfl rfl rfl rfl rfl) rfl rfl ?_
    refine sq (f_assign rfl (lt rfl)) rfl rfl ?_
    refine hits_nil ?_
    refine to_next ?_
    refine hits_ret ?_
    refine to_ret ?_
    exact hits_done (.inl rfl) rfl rfl rfl

theorem parse_no (s : ByteArray) (hs : s.size ≤ 281474976710656) (h : ¬ Yes s) : CallsP Tryd.prog Errs 19 [.sc (.string s)] (.tup [.agg [.sc (.int .i64 0), .sc (.int .u64 0), .sc (.int .u64 0)], .sc (.int .i64 8)]) := by
  obtain ⟨c, hc, hx⟩ := Go.Proofs.YthhlnghpbjmfpaaDoor.PTrydFns.check_c (pW s) (pV_lt s)
  rw [pV_hi, pV_lo] at hc
  cases c
  · exact parse_bad s hs hc
  · obtain ⟨w, h1, h2, h3, h4⟩ := hx rfl
    exact parse_ne s hs h1 h2 h3 h4 fun h5 => h ⟨w, h1, h2, h3, h4, h5⟩

end Go.Proofs.YthhlnghpbjmfpaaDoor.AbBits


namespace Go.Proofs.YthhlnghpbjmfpaaDoor.AbBits
open Go Go.RowKit Go.Ab Go.Proofs Go.Proofs.YthhlnghpbjmfpaaDoor Go.Proofs.YthhlnghpbjmfpaaDoor.PTryd Go.Proofs.YthhlnghpbjmfpaaDoor.PTrydFns Go.Proofs.YthhlnghpbjmfpaaDoor.BitsMath Go.Proofs.YthhlnghpbjmfpaaDoor.Press
set_option linter.unusedVariables false
set_option linter.unusedSimpArgs false
theorem sk67 : sk Tryd.prog 67 = some (4, 1, [.bool false]) := by kernel_rfl
theorem apk67 : apk Tryd.prog 67 67 = some (4, 1, 1) := by kernel_rfl
theorem un67 : Tryd.prog.underlying 67 = some (.slice 4) := by kernel_rfl
theorem kd4 : kd Tryd.prog 4 = some (false, 1) := by kernel_rfl
theorem un3 : Tryd.prog.underlying 3 = some (.int .i64) := by kernel_rfl
def bD (l : List Bool) : List D := l.map fun b => .sc (.bool b)
theorem bD_len (l : List Bool) : (bD l).length = l.length := by simp [bD]
theorem bD_bl (w v : Nat) : (bD (bl w v)).length = w := by rw [bD_len, bl_length]
theorem bD_at {w v j : Nat} (h : j < w) : (bD (bl w v))[((j : Int)).toNat]? = some (.sc (.bool (v.testBit j))) := by
  rw [Int.toNat_natCast, bD, List.getElem?_map, BitsMath.bl, List.getElem?_map, List.getElem?_range h]; rfl
theorem bD_succ (i v : Nat) : bD (bl i v) ++ [.sc (.bool (v.testBit i))] = bD (bl (i + 1) v) := by rw [bl_succ, bD, bD, List.map_append]; rfl
/-- So many bits of v, from a place on, the highest first. -/
def pv (v at_ n k : Nat) : Nat := v / 2 ^ (at_ + n - k) % 2 ^ k
theorem pv_lt (v at_ n k : Nat) (h : k ≤ 8) : pv v at_ n k < 256 := Nat.lt_of_lt_of_le (Nat.mod_lt _ (Nat.two_pow_pos k)) (Nat.pow_le_pow_right (by decide) h)
theorem pv_step {v at_ n k : Nat} (h : k < n) : pv v at_ n (k + 1) = 2 * pv v at_ n k + (v.testBit (at_ + (n - 1 - k))).toNat := by
  unfold pv
  have e1 : at_ + n - k = at_ + (n - 1 - k) + 1 := by omega
  have e2 : at_ + n - (k + 1) = at_ + (n - 1 - k) := by omega
  rw [e1, e2]
  generalize at_ + (n - 1 - k) = j
  rw [Nat.testBit_eq_decide_div_mod_eq, Nat.pow_succ 2 j, ← Nat.div_div_eq_div_mul]
  generalize v / 2 ^ j = x
  rw [Nat.pow_succ, Nat.mul_comm (2 ^ k) 2, Nat.mod_mul]
  by_cases h1 : x % 2 = 1
  · simp [h1]; omega
  · have : x % 2 = 0 := by omega
    simp [this]
theorem pv_t {v at_ n k : Nat} (h : k < n) (ht : v.testBit (at_ + (n - 1 - k)) = true) : pv v at_ n (k + 1) = 2 * pv v at_ n k + 1 := by rw [pv_step h, ht]; rfl
theorem pv_f {v at_ n k : Nat} (h : k < n) (ht : v.testBit (at_ + (n - 1 - k)) = false) : pv v at_ n (k + 1) = 2 * pv v at_ n k := by rw [pv_step h, ht]; rfl
theorem bit_big {w v j : Nat} (hv : v < 2 ^ w) (h : ¬ j < w) : v.testBit j = false := Nat.testBit_lt_two_pow (Nat.lt_of_lt_of_le hv (Nat.pow_le_pow_right (by decide) (by omega)))
def decB (n : Nat) : ByteArray := ⟨(Lib.decDigits n).toArray⟩
theorem itoaB_dec (w : Nat) : itoaB w = decB w := by unfold itoaB decB Lib.itoa; rw [if_neg (by omega)]; simp
theorem ext_dig : ∀ r : Nat, r < 10 → (⟨#[48, 49, 50, 51, 52, 53, 54, 55, 56, 57]⟩ : ByteArray).extract r (r + 1) = ⟨#[UInt8.ofNat (48 + r)]⟩ := by decide +kernel
theorem decB_big {m : Nat} (h : 9 < m) : decB m = decB (m / 10) ++ (⟨#[48, 49, 50, 51, 52, 53, 54, 55, 56, 57]⟩ : ByteArray).extract (m % 10) (m % 10 + 1) := by
  rw [ext_dig _ (Nat.mod_lt _ (by decide))]
  unfold decB
  rw [Lib.decDigits, dif_neg (by omega)]
  apply ByteArray.ext
  simp
theorem decB_small {m : Nat} (h : ¬ 9 < m) : decB m = (⟨#[48, 49, 50, 51, 52, 53, 54, 55, 56, 57]⟩ : ByteArray).extract m (m + 1) := by
  rw [ext_dig _ (by omega)]
  unfold decB
  rw [Lib.decDigits, dif_pos (by omega)]
theorem decB_len : ∀ n : Nat, n < 1000 → (decB n).size ≤ 3 := by decide +kernel
theorem f_remI {P : Program} {E : Env} {st : St} {d : Nat} {x y : Operand} {ty : TypeId} {pos : String} {af : Array Edge} {g : Option (Nat × Bool)} {t yt : TypeId} {k : IntKind} {p q r : Int} (hx : ev st x = some (.d (.sc (.int k p)))) (hy : ev st y = some (.d (.sc (.int k q)))) (h0 : q ≠ 0) (hr : p.tmod q = r) (hd : d < E.N) :
    FOk P E ⟨some d, .binOp .rem t x y yt, ty, pos, af, g⟩ st (evL x ++ evL y) [] [(.slot d, some (.d (.sc (.int k r))))] := by subst hr; exact f_rem hx hy h0 hd
theorem f_divI {P : Program} {E : Env} {st : St} {d : Nat} {x y : Operand} {ty : TypeId} {pos : String} {af : Array Edge} {g : Option (Nat × Bool)} {t yt : TypeId} {k : IntKind} {p q r : Int} (hx : ev st x = some (.d (.sc (.int k p)))) (hy : ev st y = some (.d (.sc (.int k q)))) (h0 : q ≠ 0) (hr : k.wrap (p.tdiv q) = r) (hd : d < E.N) :
    FOk P E ⟨some d, .binOp .quo t x y yt, ty, pos, af, g⟩ st (evL x ++ evL y) [] [(.slot d, some (.d (.sc (.int k r))))] := by subst hr; exact f_div hx hy h0 hd
/-- The reference's digit. -/
def dgI (c : Nat) : Int := if 48 ≤ c ∧ c ≤ 57 then ((c - 48 : Nat) : Int) else if 97 ≤ c ∧ c ≤ 102 then ((c - 87 : Nat) : Int) else -1
theorem app_nil (a : ByteArray) : a ++ ⟨#[]⟩ = a := by apply ByteArray.ext; simp
theorem app_assoc (a b c : ByteArray) : a ++ b ++ c = a ++ (b ++ c) := by apply ByteArray.ext; simp
theorem fdiv_nat (a i : Nat) (h : i < 64) : ((a : Int)).fdiv (2 ^ min ((i : Int)).toNat IntKind.u64.bits) = ((a / 2 ^ i : Nat) : Int) := by
  rw [show min ((i : Int)).toNat IntKind.u64.bits = i from by rw [Int.toNat_natCast]; exact Nat.min_eq_left (Nat.le_of_lt h), Int.fdiv_eq_ediv_of_nonneg _ (Int.le_of_lt (Int.pow_pos (by decide)))]
  push_cast
  rfl
theorem bit_lo {v i : Nat} (h : i < 64) : (Go.bits .and .u64 ((loOf v).fdiv (2 ^ min ((i : Int)).toNat IntKind.u64.bits)) 1 == 1) = v.testBit i := by
  rw [← bit_word v i h]; unfold loOf; rw [fdiv_nat _ _ h, shr_nat _ (lo_lt v)]
theorem bit_hi {v i : Nat} (hv : v < 2 ^ 128) (h0 : ¬ i < 64) (h : i < 128) : (Go.bits .and .u64 ((hiOf v).fdiv (2 ^ min (((i - 64 : Nat) : Int)).toNat IntKind.u64.bits)) 1 == 1) = v.testBit i := by
  have e := bit_word2 (v := v) (i - 64) hv (by omega)
  rw [show i - 64 + 64 = i from by omega] at e
  rw [← e]; unfold hiOf; rw [fdiv_nat _ _ (by omega), shr_nat _ (hi_lt hv)]

set_option maxRecDepth 100000 in
theorem rbits_c {w v : Nat} (h : w ≤ 128) (hv : v < 2 ^ 128) : CallsP Tryd.prog Errs 33 [bitD w v] (.list 1 (bD (bl w v))) := by
  refine callsP_of gs_errs Tryd.func33 rfl Tryd.ntmps33 rfl fun w0 S0 stab => ?_
  refine hits_seq ?_
  refine hits_region ?_
  refine sq (f_box rfl rfl (lt rfl)) rfl rfl ?_
  refine sq (f_assign rfl (lt rfl)) rfl rfl ?_
  refine hits_nil ?_
  refine to_next ?_
  refine hits_seq ?_
  refine hits_region ?_
  refine sq (f_assign rfl (lt rfl)) rfl rfl ?_
  refine hits_nil ?_
  refine to_next ?_
  refine hits_seq ?_
  refine hits_seq ?_
  refine hits_region ?_
  refine sq (f_assign rfl (lt rfl)) rfl rfl ?_
  refine hits_nil ?_
  refine to_next ?_
  refine hits_block ?_
  refine hits_own 3 3 1 rfl ?_
  refine hits_loop (fun i : Nat => [(.slot 3, some (.own 3 1 (bD (bl i v)))), (.slot 4, some (.d (.sc (.int .i64 (i : Int))))), (.slot 1, some (.ptr 1 0)), (.cell 1 0, some (.d (.sc (.int .i64 (w : Int))))), (.cell 1 1, some (.d (.sc (.int .u64 (hiOf (v)))))), (.cell 1 2, some (.d (.sc (.int .u64 (loOf (v)))))), (.box 1, some (.ptr 1 0)), (.tip 3, some (.ptr 3 0))]) (fun i : Nat => i ≤ w) (fun i : Nat => w - i) 0 (Nat.zero_le _) ⟨rfl, rfl, rfl, rfl, rfl, rfl, rfl, rfl, trivial⟩ rfl ?_
  intro i hi
  refine hits_seq ?_
  refine hits_seq ?_
  by_cases h1 : i < w
  · refine hits_region ?_
    refine sq (f_move rfl (lt rfl)) rfl rfl ?_
    refine sq (f_fieldAddr rfl kf27_0 rfl (lt rfl)) rfl rfl ?_
    refine sq (f_load kd3 rfl rfl (lt rfl)) rfl rfl ?_
    refine sq (f_bin rfl rfl (bT (decide_eq_true (by omega))) (lt rfl)) rfl rfl ?_
    refine sq (f_move rfl (lt rfl)) rfl rfl ?_
    refine sq_yes (f_move rfl (lt rfl)) rfl rfl rfl rfl (lt rfl) ?_
    refine sq_yes (f_bin rfl rfl (bT (decide_eq_true (by omega))) (lt rfl)) rfl rfl rfl rfl (lt rfl) ?_
    refine sq (f_pick rfl rfl (lt rfl)) rfl rfl ?_
    refine hits_nil ?_
    refine to_next ?_
    refine hits_cond rfl (fun c0 => ?_) (fun c0 => ?_)
    case refine_2 => exact absurd c0 Bool.false_ne_true.symm
    case refine_1 =>
      refine hits_skip ?_
      refine to_next ?_
      refine hits_seq ?_
      refine hits_block ?_
      refine hits_seq ?_
      by_cases h2 : i < 64
      · refine hits_region ?_
        refine sq (f_move rfl (lt rfl)) rfl rfl ?_
        refine sq (f_bin rfl rfl (bT (decide_eq_true (by omega))) (lt rfl)) rfl rfl ?_
        refine hits_nil ?_
        refine to_next ?_
        refine hits_cond rfl (fun c1 => ?_) (fun c1 => ?_)
        case refine_2 => exact absurd c1 Bool.false_ne_true.symm
        case refine_1 =>
          refine hits_region ?_
          refine sq (f_move rfl (lt rfl)) rfl rfl ?_
          refine sq (f_fieldAddr rfl kf27_2 rfl (lt rfl)) rfl rfl ?_
          refine sq (f_load kd22 rfl rfl (lt rfl)) rfl rfl ?_
          refine sq (f_move rfl (lt rfl)) rfl rfl ?_
          refine sq (f_shr rfl rfl (by omega) (lt rfl)) rfl rfl ?_
          refine sq (f_bin rfl rfl rfl (lt rfl)) rfl rfl ?_
          refine sq (f_bin rfl rfl (bT (bit_lo h2)) (lt rfl)) rfl rfl ?_
          refine sq (f_buildSlice sk67 rfl rfl rfl rfl rfl rfl (by decide) (by decide) (lt rfl)) rfl rfl ?_
          refine sq_append rfl rfl rfl rfl apk67 (by simp [snds, bD_bl]; omega) (by simp [snds, bD_bl]; omega) rfl (lt rfl) ?_
          refine sq (f_assign rfl (lt rfl)) rfl rfl ?_
          refine hits_nil ?_
          refine in_next ?_
          refine to_next ?_
          refine hits_region ?_
          refine sq (f_move rfl (lt rfl)) rfl rfl ?_
          refine sq (f_bin rfl rfl (iT ((wrap_succ (by omega) : _ = ((i + 1 : Nat) : Int)))) (lt rfl)) rfl rfl ?_
          refine sq (f_assign rfl (lt rfl)) rfl rfl ?_
          refine hits_nil ?_
          refine to_next ?_
          exact round_end (i + 1) (by omega) (by omega) ⟨congrArg (fun z => some (V.own 3 1 z)) (bD_succ i v), rfl, rfl, rfl, rfl, rfl, rfl, rfl, trivial⟩ rfl
      · refine hits_region ?_
        refine sq (f_move rfl (lt rfl)) rfl rfl ?_
        refine sq (f_bin rfl rfl (bT (decide_eq_false (by omega))) (lt rfl)) rfl rfl ?_
        refine hits_nil ?_
        refine to_next ?_
        refine hits_cond rfl (fun c1 => ?_) (fun c1 => ?_)
        case refine_1 => exact absurd c1 Bool.false_ne_true
        case refine_2 =>
          refine hits_region ?_
          refine sq (f_move rfl (lt rfl)) rfl rfl ?_
          refine sq (f_fieldAddr rfl kf27_1 rfl (lt rfl)) rfl rfl ?_
          refine sq (f_load kd22 rfl rfl (lt rfl)) rfl rfl ?_
          refine sq (f_move rfl (lt rfl)) rfl rfl ?_
          refine sq (f_bin rfl rfl (iT (((IntWalk.i64_in _ (by omega)).trans (by omega) : _ = ((i - 64 : Nat) : Int)))) (lt rfl)) rfl rfl ?_
          refine sq (f_shr rfl rfl (by omega) (lt rfl)) rfl rfl ?_
          refine sq (f_bin rfl rfl rfl (lt rfl)) rfl rfl ?_
          refine sq (f_bin rfl rfl (bT (bit_hi hv h2 (by omega))) (lt rfl)) rfl rfl ?_
          refine sq (f_buildSlice sk67 rfl rfl rfl rfl rfl rfl (by decide) (by decide) (lt rfl)) rfl rfl ?_
          refine sq_append rfl rfl rfl rfl apk67 (by simp [snds, bD_bl]; omega) (by simp [snds, bD_bl]; omega) rfl (lt rfl) ?_
          refine sq (f_assign rfl (lt rfl)) rfl rfl ?_
          refine hits_nil ?_
          refine in_next ?_
          refine to_next ?_
          refine hits_region ?_
          refine sq (f_move rfl (lt rfl)) rfl rfl ?_
          refine sq (f_bin rfl rfl (iT ((wrap_succ (by omega) : _ = ((i + 1 : Nat) : Int)))) (lt rfl)) rfl rfl ?_
          refine sq (f_assign rfl (lt rfl)) rfl rfl ?_
          refine hits_nil ?_
          refine to_next ?_
          exact round_end (i + 1) (by omega) (by omega) ⟨congrArg (fun z => some (V.own 3 1 z)) (bD_succ i v), rfl, rfl, rfl, rfl, rfl, rfl, rfl, trivial⟩ rfl
  · refine hits_region ?_
    refine sq (f_move rfl (lt rfl)) rfl rfl ?_
    refine sq (f_fieldAddr rfl kf27_0 rfl (lt rfl)) rfl rfl ?_
    refine sq (f_load kd3 rfl rfl (lt rfl)) rfl rfl ?_
    refine sq (f_bin rfl rfl (bT (decide_eq_false (by omega))) (lt rfl)) rfl rfl ?_
    refine sq (f_move rfl (lt rfl)) rfl rfl ?_
    refine sq_no rfl rfl rfl rfl rfl (lt rfl) (lt rfl) ?_
    refine sq_no rfl rfl rfl rfl rfl (lt rfl) (lt rfl) ?_
    refine sq (f_pick rfl rfl (lt rfl)) rfl rfl ?_
    refine hits_nil ?_
    refine to_next ?_
    refine hits_cond rfl (fun c0 => ?_) (fun c0 => ?_)
    case refine_1 => exact absurd c0 Bool.false_ne_true
    case refine_2 =>
      refine hits_exit ?_
      refine to_exit ?_
      refine to_exit ?_
      refine in_hit rfl ?_
      refine to_next ?_
      refine hits_seq ?_
      obtain rfl : i = w := by omega
      refine hits_region ?_
      refine sq (f_move rfl (lt rfl)) rfl rfl ?_
      refine sq (f_assign rfl (lt rfl)) rfl rfl ?_
      refine hits_nil ?_
      refine to_next ?_
      refine hits_ret ?_
      exact hits_done (.inl rfl) rfl rfl rfl

set_option maxRecDepth 100000 in
theorem part_c {w v at_ n : Nat} (h : w ≤ 128) (hv : v < 2 ^ w) (ha : at_ ≤ 1000) (hn : n ≤ 8) : CallsP Tryd.prog Errs 34 [.list 1 (bD (bl w v)), .sc (.int .i64 (at_ : Int)), .sc (.int .i64 (n : Int))] (.sc (.int .i64 ((v / 2 ^ at_ % 2 ^ n : Nat) : Int))) := by
  refine callsP_of gs_errs Tryd.func34 rfl Tryd.ntmps34 rfl fun w0 S0 stab => ?_
  refine hits_seq ?_
  refine hits_region ?_
  refine sq (f_assign rfl (lt rfl)) rfl rfl ?_
  refine hits_nil ?_
  refine to_next ?_
  refine hits_seq ?_
  refine hits_region ?_
  refine sq (f_assign rfl (lt rfl)) rfl rfl ?_
  refine hits_nil ?_
  refine to_next ?_
  refine hits_seq ?_
  refine hits_seq ?_
  refine hits_region ?_
  refine sq (f_move rfl (lt rfl)) rfl rfl ?_
  refine sq (f_bin rfl rfl (iT (((IntWalk.i64_in _ (by omega)).trans (by omega) : _ = (n : Int) - 1 - ((0 : Nat) : Int)))) (lt rfl)) rfl rfl ?_
  refine sq (f_assign rfl (lt rfl)) rfl rfl ?_
  refine hits_nil ?_
  refine to_next ?_
  refine hits_block ?_
  refine hits_loop (fun k : Nat => [(.slot 0, some (.d (.list 1 (bD (bl w v))))), (.slot 1, some (.d (.sc (.int .i64 (at_ : Int))))), (.slot 7, some (.d (.sc (.int .i64 (pv v at_ n k : Int))))), (.slot 8, some (.d (.sc (.int .i64 ((n : Int) - 1 - (k : Int))))))]) (fun k : Nat => k ≤ n) (fun k : Nat => n - k) 0 (Nat.zero_le _) ⟨rfl, rfl, congrArg (fun z : Nat => some (V.d (.sc (.int .i64 (z : Int))))) (by simp [pv, Nat.mod_one] : 0 = pv v at_ n 0), rfl, trivial⟩ rfl ?_
  intro k hk'
  refine hits_seq ?_
  refine hits_seq ?_
  by_cases hk : k < n
  · have hp := pv_lt v at_ n k (by omega)
    refine hits_region ?_
    refine sq (f_move rfl (lt rfl)) rfl rfl ?_
    refine sq (f_bin rfl rfl (bT (decide_eq_true (by omega))) (lt rfl)) rfl rfl ?_
    refine hits_nil ?_
    refine to_next ?_
    refine hits_cond rfl (fun c0 => ?_) (fun c0 => ?_)
    case refine_2 => exact absurd c0 Bool.false_ne_true.symm
    case refine_1 =>
      refine hits_skip ?_
      refine to_next ?_
      refine hits_seq ?_
      refine hits_block ?_
      refine hits_seq ?_
      by_cases hb : at_ + (n - 1 - k) < w
      · cases ht : v.testBit (at_ + (n - 1 - k))
        · have hat := bD_at (v := v) hb
          rw [ht] at hat
          refine hits_region ?_
          refine sq (f_move rfl (lt rfl)) rfl rfl ?_
          refine sq (f_bin rfl rfl (iT (((IntWalk.i64_in _ (by omega)).trans (by rw [pv_f hk ht]; omega) : _ = (pv v at_ n (k + 1) : Int)))) (lt rfl)) rfl rfl ?_
          refine sq (f_assign rfl (lt rfl)) rfl rfl ?_
          refine hits_nil ?_
          refine to_next ?_
          refine hits_seq ?_
          refine hits_region ?_
          refine sq (f_move rfl (lt rfl)) rfl rfl ?_
          refine sq (f_move rfl (lt rfl)) rfl rfl ?_
          refine sq (f_bin rfl rfl (iT (((IntWalk.i64_in _ (by omega)).trans (by omega) : _ = ((at_ + (n - 1 - k) : Nat) : Int)))) (lt rfl)) rfl rfl ?_
          refine sq (f_move rfl (lt rfl)) rfl rfl ?_
          refine sq (f_lenList rfl rfl un67 (lt rfl)) rfl rfl ?_
          refine sq (f_bin rfl rfl (bT (decide_eq_true (by rw [bD_bl]; omega))) (lt rfl)) rfl rfl ?_
          refine sq (f_move rfl (lt rfl)) rfl rfl ?_
          refine sq_yes (f_move rfl (lt rfl)) rfl rfl rfl rfl (lt rfl) ?_
          refine sq_yes (f_move rfl (lt rfl)) rfl rfl rfl rfl (lt rfl) ?_
          refine sq_yes (f_move rfl (lt rfl)) rfl rfl rfl rfl (lt rfl) ?_
          refine sq_yes (f_bin rfl rfl (iT (((IntWalk.i64_in _ (by omega)).trans (by omega) : _ = ((at_ + (n - 1 - k) : Nat) : Int)))) (lt rfl)) rfl rfl rfl rfl (lt rfl) ?_
          refine sq_yes (f_idxList rfl rfl rfl un67 kd4 (Int.natCast_nonneg _) hat (lt rfl)) rfl rfl rfl rfl (lt rfl) ?_
          refine sq_yes (f_load kd4 rfl rfl (lt rfl)) rfl rfl rfl rfl (lt rfl) ?_
          refine sq (f_pick rfl rfl (lt rfl)) rfl rfl ?_
          refine hits_nil ?_
          refine to_next ?_
          refine hits_cond rfl (fun c1 => ?_) (fun c1 => ?_)
          case refine_1 => exact absurd c1 Bool.false_ne_true
          case refine_2 =>
            refine hits_skip ?_
            refine in_next ?_
            refine to_next ?_
            refine hits_region ?_
            refine sq (f_move rfl (lt rfl)) rfl rfl ?_
            refine sq (f_bin rfl rfl (iT (((IntWalk.i64_in _ (by omega)).trans (by omega) : _ = (n : Int) - 1 - ((k + 1 : Nat) : Int)))) (lt rfl)) rfl rfl ?_
            refine sq (f_assign rfl (lt rfl)) rfl rfl ?_
            refine hits_nil ?_
            refine to_next ?_
            exact round_end (k + 1) (by omega) (by omega) ⟨rfl, rfl, rfl, rfl, trivial⟩ rfl
        · have hat := bD_at (v := v) hb
          rw [ht] at hat
          refine hits_region ?_
          refine sq (f_move rfl (lt rfl)) rfl rfl ?_
          refine sq (f_bin rfl rfl (iT (((IntWalk.i64_in _ (by omega)).trans (by omega) : _ = ((2 * pv v at_ n k : Nat) : Int)))) (lt rfl)) rfl rfl ?_
          refine sq (f_assign rfl (lt rfl)) rfl rfl ?_
          refine hits_nil ?_
          refine to_next ?_
          refine hits_seq ?_
          refine hits_region ?_
          refine sq (f_move rfl (lt rfl)) rfl rfl ?_
          refine sq (f_move rfl (lt rfl)) rfl rfl ?_
          refine sq (f_bin rfl rfl (iT (((IntWalk.i64_in _ (by omega)).trans (by omega) : _ = ((at_ + (n - 1 - k) : Nat) : Int)))) (lt rfl)) rfl rfl ?_
          refine sq (f_move rfl (lt rfl)) rfl rfl ?_
          refine sq (f_lenList rfl rfl un67 (lt rfl)) rfl rfl ?_
          refine sq (f_bin rfl rfl (bT (decide_eq_true (by rw [bD_bl]; omega))) (lt rfl)) rfl rfl ?_
          refine sq (f_move rfl (lt rfl)) rfl rfl ?_
          refine sq_yes (f_move rfl (lt rfl)) rfl rfl rfl rfl (lt rfl) ?_
          refine sq_yes (f_move rfl (lt rfl)) rfl rfl rfl rfl (lt rfl) ?_
          refine sq_yes (f_move rfl (lt rfl)) rfl rfl rfl rfl (lt rfl) ?_
          refine sq_yes (f_bin rfl rfl (iT (((IntWalk.i64_in _ (by omega)).trans (by omega) : _ = ((at_ + (n - 1 - k) : Nat) : Int)))) (lt rfl)) rfl rfl rfl rfl (lt rfl) ?_
          refine sq_yes (f_idxList rfl rfl rfl un67 kd4 (Int.natCast_nonneg _) hat (lt rfl)) rfl rfl rfl rfl (lt rfl) ?_
          refine sq_yes (f_load kd4 rfl rfl (lt rfl)) rfl rfl rfl rfl (lt rfl) ?_
          refine sq (f_pick rfl rfl (lt rfl)) rfl rfl ?_
          refine hits_nil ?_
          refine to_next ?_
          refine hits_cond rfl (fun c1 => ?_) (fun c1 => ?_)
          case refine_2 => exact absurd c1 Bool.false_ne_true.symm
          case refine_1 =>
            refine hits_region ?_
            refine sq (f_move rfl (lt rfl)) rfl rfl ?_
            refine sq (f_bin rfl rfl (iT (((IntWalk.i64_in _ (by omega)).trans (by rw [pv_t hk ht]; omega) : _ = (pv v at_ n (k + 1) : Int)))) (lt rfl)) rfl rfl ?_
            refine sq (f_assign rfl (lt rfl)) rfl rfl ?_
            refine hits_nil ?_
            refine in_next ?_
            refine to_next ?_
            refine hits_region ?_
            refine sq (f_move rfl (lt rfl)) rfl rfl ?_
            refine sq (f_bin rfl rfl (iT (((IntWalk.i64_in _ (by omega)).trans (by omega) : _ = (n : Int) - 1 - ((k + 1 : Nat) : Int)))) (lt rfl)) rfl rfl ?_
            refine sq (f_assign rfl (lt rfl)) rfl rfl ?_
            refine hits_nil ?_
            refine to_next ?_
            exact round_end (k + 1) (by omega) (by omega) ⟨rfl, rfl, rfl, rfl, trivial⟩ rfl
      · have ht := bit_big hv hb
        refine hits_region ?_
        refine sq (f_move rfl (lt rfl)) rfl rfl ?_
        refine sq (f_bin rfl rfl (iT (((IntWalk.i64_in _ (by omega)).trans (by rw [pv_f hk ht]; omega) : _ = (pv v at_ n (k + 1) : Int)))) (lt rfl)) rfl rfl ?_
        refine sq (f_assign rfl (lt rfl)) rfl rfl ?_
        refine hits_nil ?_
        refine to_next ?_
        refine hits_seq ?_
        refine hits_region ?_
        refine sq (f_move rfl (lt rfl)) rfl rfl ?_
        refine sq (f_move rfl (lt rfl)) rfl rfl ?_
        refine sq (f_bin rfl rfl (iT (((IntWalk.i64_in _ (by omega)).trans (by omega) : _ = ((at_ + (n - 1 - k) : Nat) : Int)))) (lt rfl)) rfl rfl ?_
        refine sq (f_move rfl (lt rfl)) rfl rfl ?_
        refine sq (f_lenList rfl rfl un67 (lt rfl)) rfl rfl ?_
        refine sq (f_bin rfl rfl (bT (decide_eq_false (by rw [bD_bl]; omega))) (lt rfl)) rfl rfl ?_
        refine sq (f_move rfl (lt rfl)) rfl rfl ?_
        refine sq_no rfl rfl rfl rfl rfl (lt rfl) (lt rfl) ?_
        refine sq_no rfl rfl rfl rfl rfl (lt rfl) (lt rfl) ?_
        refine sq_no rfl rfl rfl rfl rfl (lt rfl) (lt rfl) ?_
        refine sq_no rfl rfl rfl rfl rfl (lt rfl) (lt rfl) ?_
        refine sq_no rfl rfl rfl rfl rfl (lt rfl) (lt rfl) ?_
        refine sq_no rfl rfl rfl rfl rfl (lt rfl) (lt rfl) ?_
        refine sq (f_pick rfl rfl (lt rfl)) rfl rfl ?_
        refine hits_nil ?_
        refine to_next ?_
        refine hits_cond rfl (fun c1 => ?_) (fun c1 => ?_)
        case refine_1 => exact absurd c1 Bool.false_ne_true
        case refine_2 =>
          refine hits_skip ?_
          refine in_next ?_
          refine to_next ?_
          refine hits_region ?_
          refine sq (f_move rfl (lt rfl)) rfl rfl ?_
          refine sq (f_bin rfl rfl (iT (((IntWalk.i64_in _ (by omega)).trans (by omega) : _ = (n : Int) - 1 - ((k + 1 : Nat) : Int)))) (lt rfl)) rfl rfl ?_
          refine sq (f_assign rfl (lt rfl)) rfl rfl ?_
          refine hits_nil ?_
          refine to_next ?_
          exact round_end (k + 1) (by omega) (by omega) ⟨rfl, rfl, rfl, rfl, trivial⟩ rfl
  · obtain rfl : k = n := by omega
    refine hits_region ?_
    refine sq (f_move rfl (lt rfl)) rfl rfl ?_
    refine sq (f_bin rfl rfl (bT (decide_eq_false (by omega))) (lt rfl)) rfl rfl ?_
    refine hits_nil ?_
    refine to_next ?_
    refine hits_cond rfl (fun c0 => ?_) (fun c0 => ?_)
    case refine_1 => exact absurd c0 Bool.false_ne_true
    case refine_2 =>
      refine hits_exit ?_
      refine to_exit ?_
      refine to_exit ?_
      refine in_hit rfl ?_
      refine to_next ?_
      refine hits_seq ?_
      refine hits_region ?_
      refine sq (f_move rfl (lt rfl)) rfl rfl ?_
      refine sq (f_assign rfl (lt rfl)) rfl rfl ?_
      refine hits_nil ?_
      refine to_next ?_
      refine hits_ret ?_
      exact hits_done (.inl rfl) rfl rfl (by unfold pv; rw [Nat.add_sub_cancel]; rfl)

set_option maxRecDepth 100000 in
theorem digits_c {n : Nat} (h : n < 1000) : CallsP Tryd.prog Errs 35 [.sc (.int .i64 (n : Int))] (.sc (.string (decB n))) := by
  have hl := decB_len n h
  refine callsP_of gs_errs Tryd.func35 rfl Tryd.ntmps35 rfl fun w0 S0 stab => ?_
  refine hits_seq ?_
  refine hits_region ?_
  refine sq (f_assign rfl (lt rfl)) rfl rfl ?_
  refine hits_nil ?_
  refine to_next ?_
  refine hits_seq ?_
  refine hits_region ?_
  refine sq (f_assign rfl (lt rfl)) rfl rfl ?_
  refine hits_nil ?_
  refine to_next ?_
  refine hits_seq ?_
  refine hits_block ?_
  refine hits_loop (fun x : Nat × ByteArray => [(.slot 0, some (.d (.sc (.int .i64 (x.1 : Int))))), (.slot 3, some (.d (.sc (.string x.2))))]) (fun x : Nat × ByteArray => x.1 < 1000 ∧ decB x.1 ++ x.2 = decB n) (fun x : Nat × ByteArray => x.1) (n, ⟨#[]⟩) ⟨h, app_nil _⟩ ⟨rfl, rfl, trivial⟩ rfl ?_
  intro x hx
  obtain ⟨m, s⟩ := x
  obtain ⟨hm1, hJ⟩ := hx
  simp only at hm1 hJ
  change Hits _ [(.slot 0, some (.d (.sc (.int .i64 (m : Int))))), (.slot 3, some (.d (.sc (.string s))))] _
  refine hits_seq ?_
  refine hits_seq ?_
  by_cases hm : 9 < m
  · have hbig := decB_big hm
    have hsz : s.size ≤ 3 := by have := congrArg ByteArray.size hJ; rw [size_app] at this; omega
    have hes := ext_le (⟨#[48, 49, 50, 51, 52, 53, 54, 55, 56, 57]⟩ : ByteArray) (m % 10) (m % 10 + 1)
    have hten : (⟨#[48, 49, 50, 51, 52, 53, 54, 55, 56, 57]⟩ : ByteArray).size = 10 := rfl
    refine hits_region ?_
    refine sq (f_move rfl (lt rfl)) rfl rfl ?_
    refine sq (f_bin rfl rfl (bT (decide_eq_true (by omega))) (lt rfl)) rfl rfl ?_
    refine hits_nil ?_
    refine to_next ?_
    refine hits_cond rfl (fun c0 => ?_) (fun c0 => ?_)
    case refine_2 => exact absurd c0 Bool.false_ne_true.symm
    case refine_1 =>
      refine hits_skip ?_
      refine to_next ?_
      refine hits_block ?_
      refine hits_seq ?_
      refine hits_region ?_
      refine sq (f_move rfl (lt rfl)) rfl rfl ?_
      refine sq (f_remI rfl rfl (by decide) (by rw [Int.tmod_eq_emod_of_nonneg (by omega)]; omega : _ = ((m % 10 : Nat) : Int)) (lt rfl)) rfl rfl ?_
      refine sq (f_move rfl (lt rfl)) rfl rfl ?_
      refine sq (f_remI rfl rfl (by decide) (by rw [Int.tmod_eq_emod_of_nonneg (by omega)]; omega : _ = ((m % 10 : Nat) : Int)) (lt rfl)) rfl rfl ?_
      refine sq (f_bin rfl rfl (iT (((IntWalk.i64_in _ (by omega)).trans (by omega) : _ = ((m % 10 + 1 : Nat) : Int)))) (lt rfl)) rfl rfl ?_
      refine sq (f_sliceStr rfl rfl rfl un9 (by omega) (by omega) (by show ((m % 10 + 1 : Nat) : Int) ≤ 10; omega) (lt rfl)) rfl rfl ?_
      refine sq (f_move rfl (lt rfl)) rfl rfl ?_
      refine sq (f_cat rfl rfl (by show (ByteArray.extract _ (m % 10) (m % 10 + 1)).size + s.size ≤ _; omega) (lt rfl)) rfl rfl ?_
      refine sq (f_assign rfl (lt rfl)) rfl rfl ?_
      refine hits_nil ?_
      refine to_next ?_
      refine hits_region ?_
      refine sq (f_move rfl (lt rfl)) rfl rfl ?_
      refine sq (f_divI rfl rfl (by decide) (by rw [Int.tdiv_eq_ediv_of_nonneg (by omega), IntWalk.i64_in _ (by omega)]; omega : _ = ((m / 10 : Nat) : Int)) (lt rfl)) rfl rfl ?_
      refine sq (f_assign rfl (lt rfl)) rfl rfl ?_
      refine hits_nil ?_
      refine in_next ?_
      refine to_next ?_
      exact round_end (m / 10, (⟨#[48, 49, 50, 51, 52, 53, 54, 55, 56, 57]⟩ : ByteArray).extract (m % 10) (m % 10 + 1) ++ s) ⟨Nat.lt_of_le_of_lt (Nat.div_le_self _ _) hm1, by show decB (m / 10) ++ (_ ++ s) = _; rw [← app_assoc, ← hbig, hJ]⟩ (by show m / 10 < m; omega) ⟨rfl, rfl, trivial⟩ rfl
  · have hsml := decB_small hm
    have hsz : s.size ≤ 3 := by have := congrArg ByteArray.size hJ; rw [size_app] at this; omega
    have hes := ext_le (⟨#[48, 49, 50, 51, 52, 53, 54, 55, 56, 57]⟩ : ByteArray) m (m + 1)
    have hten : (⟨#[48, 49, 50, 51, 52, 53, 54, 55, 56, 57]⟩ : ByteArray).size = 10 := rfl
    refine hits_region ?_
    refine sq (f_move rfl (lt rfl)) rfl rfl ?_
    refine sq (f_bin rfl rfl (bT (decide_eq_false (by omega))) (lt rfl)) rfl rfl ?_
    refine hits_nil ?_
    refine to_next ?_
    refine hits_cond rfl (fun c0 => ?_) (fun c0 => ?_)
    case refine_1 => exact absurd c0 Bool.false_ne_true
    case refine_2 =>
      refine hits_exit ?_
      refine to_exit ?_
      refine to_exit ?_
      refine in_hit rfl ?_
      refine to_next ?_
      refine hits_seq ?_
      refine hits_region ?_
      refine sq (f_move rfl (lt rfl)) rfl rfl ?_
      refine sq (f_move rfl (lt rfl)) rfl rfl ?_
      refine sq (f_bin rfl rfl (iT (((IntWalk.i64_in _ (by omega)).trans (by omega) : _ = ((m + 1 : Nat) : Int)))) (lt rfl)) rfl rfl ?_
      refine sq (f_sliceStr rfl rfl rfl un9 (by omega) (by omega) (by show ((m + 1 : Nat) : Int) ≤ 10; omega) (lt rfl)) rfl rfl ?_
      refine sq (f_move rfl (lt rfl)) rfl rfl ?_
      refine sq (f_cat rfl rfl (by show (ByteArray.extract _ m (m + 1)).size + s.size ≤ _; omega) (lt rfl)) rfl rfl ?_
      refine sq (f_assign rfl (lt rfl)) rfl rfl ?_
      refine hits_nil ?_
      refine to_next ?_
      refine hits_ret ?_
      exact hits_done (.inl rfl) rfl rfl (by rw [← hJ, hsml]; rfl)

set_option maxRecDepth 100000 in
theorem rdigit_c {c : Nat} (hc : c < 256) : CallsP Tryd.prog Errs 39 [.sc (.int .u8 (c : Int))] (.sc (.int .i64 (dgI c))) := by
  refine callsP_of gs_errs Tryd.func39 rfl Tryd.ntmps39 rfl fun w0 S0 stab => ?_
  refine hits_seq ?_
  refine hits_region ?_
  refine sq (f_assign rfl (lt rfl)) rfl rfl ?_
  refine hits_nil ?_
  refine to_next ?_
  refine hits_seq ?_
  refine hits_block ?_
  refine hits_seq ?_
  by_cases h1 : 48 ≤ c
  · by_cases h2 : c ≤ 57
    · have hd : dgI c = ((c - 48 : Nat) : Int) := if_pos ⟨h1, h2⟩
      refine hits_region ?_
      refine sq (f_move rfl (lt rfl)) rfl rfl ?_
      refine sq (f_bin rfl rfl (bT (decide_eq_true (by omega))) (lt rfl)) rfl rfl ?_
      refine sq (f_move rfl (lt rfl)) rfl rfl ?_
      refine sq_yes (f_move rfl (lt rfl)) rfl rfl rfl rfl (lt rfl) ?_
      refine sq_yes (f_bin rfl rfl (bT (decide_eq_true (by omega))) (lt rfl)) rfl rfl rfl rfl (lt rfl) ?_
      refine sq (f_pick rfl rfl (lt rfl)) rfl rfl ?_
      refine sq (f_assign rfl (lt rfl)) rfl rfl ?_
      refine hits_nil ?_
      refine to_next ?_
      refine hits_cond rfl (fun c0 => ?_) (fun c0 => ?_)
      case refine_2 => exact absurd c0 Bool.false_ne_true.symm
      case refine_1 =>
        refine hits_seq ?_
        refine hits_region ?_
        refine sq (f_move rfl (lt rfl)) rfl rfl ?_
        refine sq (f_bin rfl rfl (iT ((u8_sub hc h1 : _ = ((c - 48 : Nat) : Int)))) (lt rfl)) rfl rfl ?_
        refine sq (f_convI rfl us5 un3 ((IntWalk.i64_in _ (by omega)).trans hd.symm) (lt rfl)) rfl rfl ?_
        refine sq (f_assign rfl (lt rfl)) rfl rfl ?_
        refine hits_nil ?_
        refine to_next ?_
        refine hits_ret ?_
        refine in_ret ?_
        refine to_ret ?_
        exact hits_done (.inl rfl) rfl rfl rfl
    · have hd1 : ¬ (48 ≤ c ∧ c ≤ 57) := by omega
      refine hits_region ?_
      refine sq (f_move rfl (lt rfl)) rfl rfl ?_
      refine sq (f_bin rfl rfl (bT (decide_eq_true (by omega))) (lt rfl)) rfl rfl ?_
      refine sq (f_move rfl (lt rfl)) rfl rfl ?_
      refine sq_yes (f_move rfl (lt rfl)) rfl rfl rfl rfl (lt rfl) ?_
      refine sq_yes (f_bin rfl rfl (bT (decide_eq_false (by omega))) (lt rfl)) rfl rfl rfl rfl (lt rfl) ?_
      refine sq (f_pick rfl rfl (lt rfl)) rfl rfl ?_
      refine sq (f_assign rfl (lt rfl)) rfl rfl ?_
      refine hits_nil ?_
      refine to_next ?_
      refine hits_cond rfl (fun c0 => ?_) (fun c0 => ?_)
      case refine_1 => exact absurd c0 Bool.false_ne_true
      case refine_2 =>
        refine hits_seq ?_
        by_cases h3 : 97 ≤ c
        · by_cases h4 : c ≤ 102
          · have hd : dgI c = ((c - 87 : Nat) : Int) := by rw [dgI, if_neg hd1, if_pos ⟨h3, h4⟩]
            refine hits_region ?_
            refine sq (f_move rfl (lt rfl)) rfl rfl ?_
            refine sq (f_bin rfl rfl (bT (decide_eq_true (by omega))) (lt rfl)) rfl rfl ?_
            refine sq (f_move rfl (lt rfl)) rfl rfl ?_
            refine sq_yes (f_move rfl (lt rfl)) rfl rfl rfl rfl (lt rfl) ?_
            refine sq_yes (f_bin rfl rfl (bT (decide_eq_true (by omega))) (lt rfl)) rfl rfl rfl rfl (lt rfl) ?_
            refine sq (f_pick rfl rfl (lt rfl)) rfl rfl ?_
            refine sq (f_assign rfl (lt rfl)) rfl rfl ?_
            refine hits_nil ?_
            refine to_next ?_
            refine hits_cond rfl (fun c1 => ?_) (fun c1 => ?_)
            case refine_2 => exact absurd c1 Bool.false_ne_true.symm
            case refine_1 =>
              refine hits_seq ?_
              refine hits_region ?_
              refine sq (f_move rfl (lt rfl)) rfl rfl ?_
              refine sq (f_bin rfl rfl (iT ((u8_sub hc h3 : _ = ((c - 97 : Nat) : Int)))) (lt rfl)) rfl rfl ?_
              refine sq (f_convI rfl us5 un3 (IntWalk.i64_in _ (by omega)) (lt rfl)) rfl rfl ?_
              refine sq (f_bin rfl rfl (iT (((IntWalk.i64_in _ (by omega)).trans (by rw [hd]; omega) : _ = dgI c))) (lt rfl)) rfl rfl ?_
              refine sq (f_assign rfl (lt rfl)) rfl rfl ?_
              refine hits_nil ?_
              refine to_next ?_
              refine hits_ret ?_
              refine in_ret ?_
              refine to_ret ?_
              exact hits_done (.inl rfl) rfl rfl rfl
          · have hd : dgI c = -1 := by rw [dgI, if_neg hd1, if_neg (by omega)]
            refine hits_region ?_
            refine sq (f_move rfl (lt rfl)) rfl rfl ?_
            refine sq (f_bin rfl rfl (bT (decide_eq_true (by omega))) (lt rfl)) rfl rfl ?_
            refine sq (f_move rfl (lt rfl)) rfl rfl ?_
            refine sq_yes (f_move rfl (lt rfl)) rfl rfl rfl rfl (lt rfl) ?_
            refine sq_yes (f_bin rfl rfl (bT (decide_eq_false (by omega))) (lt rfl)) rfl rfl rfl rfl (lt rfl) ?_
            refine sq (f_pick rfl rfl (lt rfl)) rfl rfl ?_
            refine sq (f_assign rfl (lt rfl)) rfl rfl ?_
            refine hits_nil ?_
            refine to_next ?_
            refine hits_cond rfl (fun c1 => ?_) (fun c1 => ?_)
            case refine_1 => exact absurd c1 Bool.false_ne_true
            case refine_2 =>
              refine hits_skip ?_
              refine in_next ?_
              refine to_next ?_
              refine hits_seq ?_
              rw [hd]
              refine hits_region ?_
              refine sq (f_assign rfl (lt rfl)) rfl rfl ?_
              refine hits_nil ?_
              refine to_next ?_
              refine hits_ret ?_
              exact hits_done (.inl rfl) rfl rfl rfl
        · have hd : dgI c = -1 := by rw [dgI, if_neg hd1, if_neg (by omega)]
          refine hits_region ?_
          refine sq (f_move rfl (lt rfl)) rfl rfl ?_
          refine sq (f_bin rfl rfl (bT (decide_eq_false (by omega))) (lt rfl)) rfl rfl ?_
          refine sq (f_move rfl (lt rfl)) rfl rfl ?_
          refine sq_no rfl rfl rfl rfl rfl (lt rfl) (lt rfl) ?_
          refine sq_no rfl rfl rfl rfl rfl (lt rfl) (lt rfl) ?_
          refine sq (f_pick rfl rfl (lt rfl)) rfl rfl ?_
          refine sq (f_assign rfl (lt rfl)) rfl rfl ?_
          refine hits_nil ?_
          refine to_next ?_
          refine hits_cond rfl (fun c1 => ?_) (fun c1 => ?_)
          case refine_1 => exact absurd c1 Bool.false_ne_true
          case refine_2 =>
            refine hits_skip ?_
            refine in_next ?_
            refine to_next ?_
            refine hits_seq ?_
            rw [hd]
            refine hits_region ?_
            refine sq (f_assign rfl (lt rfl)) rfl rfl ?_
            refine hits_nil ?_
            refine to_next ?_
            refine hits_ret ?_
            exact hits_done (.inl rfl) rfl rfl rfl
  · have hd1 : ¬ (48 ≤ c ∧ c ≤ 57) := by omega
    refine hits_region ?_
    refine sq (f_move rfl (lt rfl)) rfl rfl ?_
    refine sq (f_bin rfl rfl (bT (decide_eq_false (by omega))) (lt rfl)) rfl rfl ?_
    refine sq (f_move rfl (lt rfl)) rfl rfl ?_
    refine sq_no rfl rfl rfl rfl rfl (lt rfl) (lt rfl) ?_
    refine sq_no rfl rfl rfl rfl rfl (lt rfl) (lt rfl) ?_
    refine sq (f_pick rfl rfl (lt rfl)) rfl rfl ?_
    refine sq (f_assign rfl (lt rfl)) rfl rfl ?_
    refine hits_nil ?_
    refine to_next ?_
    refine hits_cond rfl (fun c0 => ?_) (fun c0 => ?_)
    case refine_1 => exact absurd c0 Bool.false_ne_true
    case refine_2 =>
      refine hits_seq ?_
      by_cases h3 : 97 ≤ c
      · by_cases h4 : c ≤ 102
        · have hd : dgI c = ((c - 87 : Nat) : Int) := by rw [dgI, if_neg hd1, if_pos ⟨h3, h4⟩]
          refine hits_region ?_
          refine sq (f_move rfl (lt rfl)) rfl rfl ?_
          refine sq (f_bin rfl rfl (bT (decide_eq_true (by omega))) (lt rfl)) rfl rfl ?_
          refine sq (f_move rfl (lt rfl)) rfl rfl ?_
          refine sq_yes (f_move rfl (lt rfl)) rfl rfl rfl rfl (lt rfl) ?_
          refine sq_yes (f_bin rfl rfl (bT (decide_eq_true (by omega))) (lt rfl)) rfl rfl rfl rfl (lt rfl) ?_
          refine sq (f_pick rfl rfl (lt rfl)) rfl rfl ?_
          refine sq (f_assign rfl (lt rfl)) rfl rfl ?_
          refine hits_nil ?_
          refine to_next ?_
          refine hits_cond rfl (fun c1 => ?_) (fun c1 => ?_)
          case refine_2 => exact absurd c1 Bool.false_ne_true.symm
          case refine_1 =>
            refine hits_seq ?_
            refine hits_region ?_
            refine sq (f_move rfl (lt rfl)) rfl rfl ?_
            refine sq (f_bin rfl rfl (iT ((u8_sub hc h3 : _ = ((c - 97 : Nat) : Int)))) (lt rfl)) rfl rfl ?_
            refine sq (f_convI rfl us5 un3 (IntWalk.i64_in _ (by omega)) (lt rfl)) rfl rfl ?_
            refine sq (f_bin rfl rfl (iT (((IntWalk.i64_in _ (by omega)).trans (by rw [hd]; omega) : _ = dgI c))) (lt rfl)) rfl rfl ?_
            refine sq (f_assign rfl (lt rfl)) rfl rfl ?_
            refine hits_nil ?_
            refine to_next ?_
            refine hits_ret ?_
            refine in_ret ?_
            refine to_ret ?_
            exact hits_done (.inl rfl) rfl rfl rfl
        · have hd : dgI c = -1 := by rw [dgI, if_neg hd1, if_neg (by omega)]
          refine hits_region ?_
          refine sq (f_move rfl (lt rfl)) rfl rfl ?_
          refine sq (f_bin rfl rfl (bT (decide_eq_true (by omega))) (lt rfl)) rfl rfl ?_
          refine sq (f_move rfl (lt rfl)) rfl rfl ?_
          refine sq_yes (f_move rfl (lt rfl)) rfl rfl rfl rfl (lt rfl) ?_
          refine sq_yes (f_bin rfl rfl (bT (decide_eq_false (by omega))) (lt rfl)) rfl rfl rfl rfl (lt rfl) ?_
          refine sq (f_pick rfl rfl (lt rfl)) rfl rfl ?_
          refine sq (f_assign rfl (lt rfl)) rfl rfl ?_
          refine hits_nil ?_
          refine to_next ?_
          refine hits_cond rfl (fun c1 => ?_) (fun c1 => ?_)
          case refine_1 => exact absurd c1 Bool.false_ne_true
          case refine_2 =>
            refine hits_skip ?_
            refine in_next ?_
            refine to_next ?_
            refine hits_seq ?_
            rw [hd]
            refine hits_region ?_
            refine sq (f_assign rfl (lt rfl)) rfl rfl ?_
            refine hits_nil ?_
            refine to_next ?_
            refine hits_ret ?_
            exact hits_done (.inl rfl) rfl rfl rfl
      · have hd : dgI c = -1 := by rw [dgI, if_neg hd1, if_neg (by omega)]
        refine hits_region ?_
        refine sq (f_move rfl (lt rfl)) rfl rfl ?_
        refine sq (f_bin rfl rfl (bT (decide_eq_false (by omega))) (lt rfl)) rfl rfl ?_
        refine sq (f_move rfl (lt rfl)) rfl rfl ?_
        refine sq_no rfl rfl rfl rfl rfl (lt rfl) (lt rfl) ?_
        refine sq_no rfl rfl rfl rfl rfl (lt rfl) (lt rfl) ?_
        refine sq (f_pick rfl rfl (lt rfl)) rfl rfl ?_
        refine sq (f_assign rfl (lt rfl)) rfl rfl ?_
        refine hits_nil ?_
        refine to_next ?_
        refine hits_cond rfl (fun c1 => ?_) (fun c1 => ?_)
        case refine_1 => exact absurd c1 Bool.false_ne_true
        case refine_2 =>
          refine hits_skip ?_
          refine in_next ?_
          refine to_next ?_
          refine hits_seq ?_
          rw [hd]
          refine hits_region ?_
          refine sq (f_assign rfl (lt rfl)) rfl rfl ?_
          refine hits_nil ?_
          refine to_next ?_
          refine hits_ret ?_
          exact hits_done (.inl rfl) rfl rfl rfl

end Go.Proofs.YthhlnghpbjmfpaaDoor.AbBits


namespace Go.Proofs.YthhlnghpbjmfpaaDoor.AbBits
open Go Go.RowKit Go.Ab Go.Proofs Go.Proofs.YthhlnghpbjmfpaaDoor Go.Proofs.YthhlnghpbjmfpaaDoor.PTryd Go.Proofs.YthhlnghpbjmfpaaDoor.PTrydFns Go.Proofs.YthhlnghpbjmfpaaDoor.BitsMath Go.Proofs.YthhlnghpbjmfpaaDoor.Press
set_option linter.unusedVariables false
set_option linter.unusedSimpArgs false
theorem en33 : enters Tryd.prog 33 = true := by kernel_rfl
theorem en84 : enters Tryd.prog 84 = true := by kernel_rfl
theorem en70 : enters Tryd.prog 70 = true := by kernel_rfl
theorem en32 : enters Tryd.prog 32 = true := by kernel_rfl
theorem en34 : enters Tryd.prog 34 = true := by kernel_rfl
theorem en35 : enters Tryd.prog 35 = true := by kernel_rfl
theorem f_shlI {P : Program} {E : Env} {st : St} {d : Nat} {x y : Operand} {ty : TypeId} {pos : String} {af : Array Edge} {g : Option (Nat × Bool)} {t yt : TypeId} {k k' : IntKind} {p q r : Int} (hx : ev st x = some (.d (.sc (.int k p)))) (hy : ev st y = some (.d (.sc (.int k' q)))) (h0 : 0 ≤ q) (hr : k.wrap (p * 2 ^ (min q.toNat k.bits)) = r) (hd : d < E.N) :
    FOk P E ⟨some d, .binOp .shl t x y yt, ty, pos, af, g⟩ st (evL x ++ evL y) [] [(.slot d, some (.d (.sc (.int k r))))] := by subst hr; exact f_shl hx hy h0 hd
theorem f_shrI {P : Program} {E : Env} {st : St} {d : Nat} {x y : Operand} {ty : TypeId} {pos : String} {af : Array Edge} {g : Option (Nat × Bool)} {t yt : TypeId} {k k' : IntKind} {p q r : Int} (hx : ev st x = some (.d (.sc (.int k p)))) (hy : ev st y = some (.d (.sc (.int k' q)))) (h0 : 0 ≤ q) (hr : p.fdiv (2 ^ (min q.toNat k.bits)) = r) (hd : d < E.N) :
    FOk P E ⟨some d, .binOp .shr t x y yt, ty, pos, af, g⟩ st (evL x ++ evL y) [] [(.slot d, some (.d (.sc (.int k r))))] := by subst hr; exact f_shr hx hy h0 hd
theorem f_catI {P : Program} {E : Env} {st : St} {d : Nat} {x y : Operand} {ty : TypeId} {pos : String} {af : Array Edge} {g : Option (Nat × Bool)} {t yt : TypeId} {p q r : ByteArray} (hx : ev st x = some (.d (.sc (.string p)))) (hy : ev st y = some (.d (.sc (.string q)))) (h0 : p.size + q.size ≤ 9223372036854775807) (hr : p ++ q = r) (hd : d < E.N) :
    FOk P E ⟨some d, .binOp .add t x y yt, ty, pos, af, g⟩ st (evL x ++ evL y) [] [(.slot d, some (.d (.sc (.string r))))] := by subst hr; exact f_cat hx hy h0 hd
theorem f_idxS {P : Program} {E : Env} {st : St} {d : Nat} {x y : Operand} {ty : TypeId} {pos : String} {af : Array Edge} {g : Option (Nat × Bool)} {t : TypeId} {s : ByteArray} {k : IntKind} {i : Nat} {c : UInt8} (hx : ev st x = some (.d (.sc (.string s)))) (hy : ev st y = some (.d (.sc (.int k (i : Int))))) (ht : P.underlying t = some .string) (hat : s.data.toList[i]? = some c) (hd : d < E.N) :
    FOk P E ⟨some d, .index t x y, ty, pos, af, g⟩ st (evL x ++ evL y) [] [(.slot d, some (.d (.sc (.int .u8 (c.toNat : Int)))))] := by
  have h1 : i < s.size := by have := (List.getElem?_eq_some_iff.mp hat).1; simpa using this
  have h2 := f_idxStr (P := P) (E := E) (ty := ty) (pos := pos) (af := af) (g := g) hx hy ht (by omega) (by omega) hd
  have e : byteAt s (i : Int) = (c.toNat : Int) := by
    unfold byteAt
    rw [Int.toNat_natCast, ← Array.getElem?_toList, hat]; rfl
  rwa [e] at h2
theorem natL_go {l : List Bool} {i : Nat} (h : i < l.length) (hb : l.getD i false = true) : natL (l.take (i + 1)) = natL (l.take i) + 2 ^ i := by rw [natL_take_succ h, hb]; simp
theorem natL_no {l : List Bool} {i : Nat} (h : i < l.length) (hb : l.getD i false = false) : natL (l.take (i + 1)) = natL (l.take i) := by rw [natL_take_succ h, hb]; simp
theorem bD_getD {l : List Bool} {i : Nat} (h : i < l.length) : (bD l)[((i : Int)).toNat]? = some (.sc (.bool (l.getD i false))) := by
  rw [Int.toNat_natCast, bD, List.getElem?_map, List.getD, List.getElem?_eq_getElem h]; rfl
theorem pow_lt64 {i : Nat} (h : i < 64) : 2 ^ i < 2 ^ 64 := Nat.pow_lt_pow_right (by decide) h
theorem one_shl {i : Nat} (h : i < 64) : IntKind.u64.wrap (1 * 2 ^ (min ((i : Int)).toNat IntKind.u64.bits)) = ((2 ^ i : Nat) : Int) := (shl_nat 1 i).trans (by rw [Nat.one_mul, Nat.mod_eq_of_lt (pow_lt64 h)])
/-- The text of the highest digits, down to the k-th. -/
def sk (v k : Nat) : ByteArray := if k = 0 then hexB v else if v / 16 ^ k = 0 then ⟨#[]⟩ else hexB (v / 16 ^ k)
theorem ext_hx : ∀ r : Nat, r < 16 → (⟨#[48, 49, 50, 51, 52, 53, 54, 55, 56, 57, 97, 98, 99, 100, 101, 102]⟩ : ByteArray).extract r (r + 1) = ⟨#[Hex.hx r]⟩ := by decide +kernel
theorem hexB_small {u : Nat} (h : u < 16) : hexB u = ⟨#[Hex.hx u]⟩ := by unfold hexB; rw [Hex.hexL, if_pos h]
theorem hexB_big {u : Nat} (h : ¬ u < 16) : hexB u = hexB (u / 16) ++ ⟨#[Hex.hx (u % 16)]⟩ := by
  unfold hexB; rw [Hex.hexL, if_neg h]; apply ByteArray.ext; simp
theorem div_step (v k : Nat) (h : 0 < k) : v / 16 ^ k = v / 16 ^ (k - 1) / 16 := by
  rw [Nat.div_div_eq_div_mul, ← Nat.pow_succ, show (k - 1).succ = k from by omega]
theorem digit_at (v k : Nat) : v / 2 ^ (4 * k) % 2 ^ 4 = v / 16 ^ k % 16 := by rw [Nat.pow_mul]
theorem sk_pos {v k : Nat} (hk : 0 < k) : sk v (k - 1) = if k - 1 = 0 then hexB (v / 16 ^ (k - 1)) else if v / 16 ^ (k - 1) = 0 then ⟨#[]⟩ else hexB (v / 16 ^ (k - 1)) := by
  unfold sk
  by_cases h : k - 1 = 0
  · rw [if_pos h, if_pos h, h]; simp
  · rw [if_neg h, if_neg h]
theorem sk_app {v k : Nat} (hk : 0 < k) (h : v / 16 ^ k ≠ 0 ∨ 0 < v / 16 ^ (k - 1) % 16 ∨ k - 1 = 0) : sk v k ++ ⟨#[Hex.hx (v / 16 ^ (k - 1) % 16)]⟩ = sk v (k - 1) := by
  rw [sk_pos hk]
  have e := div_step v k hk
  unfold sk
  rw [if_neg (by omega)]
  generalize v / 16 ^ (k - 1) = u at *
  by_cases h0 : v / 16 ^ k = 0
  · rw [if_pos h0]
    have hu : u < 16 := by rw [h0] at e; omega
    rw [Nat.mod_eq_of_lt hu] at *
    have e2 : (⟨#[]⟩ : ByteArray) ++ ⟨#[Hex.hx u]⟩ = hexB u := by rw [hexB_small hu]; apply ByteArray.ext; simp
    rw [e2]
    split
    · rfl
    · rename_i h1; rw [if_neg (by omega)]
  · rw [if_neg h0]
    have hu : ¬ u < 16 := by omega
    have e2 : hexB (v / 16 ^ k) ++ ⟨#[Hex.hx (u % 16)]⟩ = hexB u := by rw [hexB_big hu, e]
    rw [e2]
    split
    · rfl
    · rw [if_neg (by omega)]
theorem sk_skip {v k : Nat} (hk : 0 < k) (h : v / 16 ^ k = 0) (h1 : ¬ 0 < v / 16 ^ (k - 1) % 16) (h2 : k - 1 ≠ 0) : sk v k = sk v (k - 1) := by
  rw [sk_pos hk, if_neg h2]
  have e := div_step v k hk
  unfold sk
  rw [if_neg (by omega), if_pos h, if_pos (by rw [h] at e; omega)]
theorem hexB_ne (u : Nat) : hexB u ≠ ⟨#[]⟩ := by
  intro h
  have h1 := congrArg (fun b : ByteArray => b.data.toList) h
  simp only [hexB] at h1
  rw [Hex.hexL] at h1
  split at h1 <;> simp at h1
theorem sk_ne {v k : Nat} (hk : 0 < k) (h : v / 16 ^ k ≠ 0) : sk v k ≠ ⟨#[]⟩ := by unfold sk; rw [if_neg (by omega), if_neg h]; exact hexB_ne _
theorem sk_nil {v k : Nat} (hk : 0 < k) (h : v / 16 ^ k = 0) : sk v k = ⟨#[]⟩ := by unfold sk; rw [if_neg (by omega), if_pos h]
theorem hexB_len {u : Nat} (h : u < 2 ^ 128) : (hexB u).size ≤ 32 := by
  have := hexL_le 31 u (by simpa using h)
  simpa [hexB, ByteArray.size] using this
theorem sk_len {v k : Nat} (h : v < 2 ^ 128) : (sk v k).size ≤ 32 := by
  unfold sk
  split
  · exact hexB_len h
  · split
    · exact Nat.zero_le _
    · exact hexB_len (Nat.lt_of_le_of_lt (Nat.div_le_self _ _) h)
/-- The reference's text. -/
def rtextB (w v : Nat) : ByteArray := decB w ++ ⟨#[119]⟩ ++ hexB v

set_option maxRecDepth 100000 in
theorem number_c {l : List Bool} (h : l.length ≤ 128) : CallsP Tryd.prog Errs 84 [.list 1 (bD l)] (bitD l.length (natL l)) := by
  have hl := bD_len l
  refine callsP_of gs_errs Tryd.func84 rfl Tryd.ntmps84 rfl fun w0 S0 stab => ?_
  refine hits_seq ?_
  refine hits_region ?_
  refine sq (f_alloc zc27 (lt rfl)) rfl rfl ?_
  refine hits_nil ?_
  refine to_next ?_
  refine hits_seq ?_
  refine hits_region ?_
  refine sq (f_move rfl (lt rfl)) rfl rfl ?_
  refine sq (f_lenList rfl rfl un67 (lt rfl)) rfl rfl ?_
  refine sq (f_build bu27 rfl rfl (lt rfl)) rfl rfl ?_
  refine sq (f_alloc zc27 (lt rfl)) rfl rfl ?_
  refine sq (f_store kd27 rfl rfl rfl rfl rfl) rfl rfl ?_
  refine hits_nil ?_
  refine to_next ?_
  refine hits_seq ?_
  refine hits_seq ?_
  refine hits_region ?_
  refine sq (f_assign rfl (lt rfl)) rfl rfl ?_
  refine hits_nil ?_
  refine to_next ?_
  refine hits_block ?_
  refine hits_loop (fun i : Nat => [(.slot 0, some (.d (.list 1 (bD l)))), (.slot 4, some (.d (.sc (.int .i64 (i : Int))))), (.slot 3, some (.ptr 3 0)), (.cell 3 0, some (.d (.sc (.int .i64 ((bD l).length : Int))))), (.cell 3 1, some (.d (.sc (.int .u64 (hiOf (natL (l.take i))))))), (.cell 3 2, some (.d (.sc (.int .u64 (loOf (natL (l.take i))))))), (.box 3, some (.ptr 3 0)), (.slot 2, some (.ptr 2 0)), (.cell 2 0, some (.d (.sc (.int .i64 0)))), (.cell 2 1, some (.d (.sc (.int .u64 0)))), (.cell 2 2, some (.d (.sc (.int .u64 0)))), (.box 2, some (.ptr 2 0))]) (fun i : Nat => i ≤ l.length) (fun i : Nat => l.length - i) 0 (Nat.zero_le _) ⟨rfl, rfl, rfl, rfl, congrArg (fun z : Int => some (V.d (.sc (.int .u64 z)))) (by rw [List.take_zero]; rfl : (0 : Int) = hiOf (natL (l.take 0))), congrArg (fun z : Int => some (V.d (.sc (.int .u64 z)))) (by rw [List.take_zero]; rfl : (0 : Int) = loOf (natL (l.take 0))), rfl, rfl, rfl, rfl, rfl, rfl, trivial⟩ rfl ?_
  intro i hi
  refine hits_seq ?_
  refine hits_seq ?_
  by_cases h1 : i < l.length
  · refine hits_region ?_
    refine sq (f_move rfl (lt rfl)) rfl rfl ?_
    refine sq (f_move rfl (lt rfl)) rfl rfl ?_
    refine sq (f_lenList rfl rfl un67 (lt rfl)) rfl rfl ?_
    refine sq (f_bin rfl rfl (bT (decide_eq_true (by omega))) (lt rfl)) rfl rfl ?_
    refine hits_nil ?_
    refine to_next ?_
    refine hits_cond rfl (fun c0 => ?_) (fun c0 => ?_)
    case refine_2 => exact absurd c0 Bool.false_ne_true.symm
    case refine_1 =>
      refine hits_skip ?_
      refine to_next ?_
      refine hits_seq ?_
      refine hits_block ?_
      refine hits_seq ?_
      refine hits_seq ?_
      cases hb : l.getD i false
      · have hat := bD_getD h1
        rw [hb] at hat
        have hn := natL_no h1 hb
        refine hits_region ?_
        refine sq (f_move rfl (lt rfl)) rfl rfl ?_
        refine sq (f_move rfl (lt rfl)) rfl rfl ?_
        refine sq (f_idxList rfl rfl rfl un67 kd4 (Int.natCast_nonneg _) hat (lt rfl)) rfl rfl ?_
        refine sq (f_load kd4 rfl rfl (lt rfl)) rfl rfl ?_
        refine sq (f_un rfl rfl (lt rfl)) rfl rfl ?_
        refine hits_nil ?_
        refine to_next ?_
        refine hits_cond rfl (fun c1 => ?_) (fun c1 => ?_)
        case refine_2 => exact absurd c1 Bool.false_ne_true.symm
        case refine_1 =>
          refine hits_exit ?_
          refine to_exit ?_
          refine in_hit rfl ?_
          refine to_next ?_
          refine hits_region ?_
          refine sq (f_move rfl (lt rfl)) rfl rfl ?_
          refine sq (f_bin rfl rfl (iT ((wrap_succ (by omega) : _ = ((i + 1 : Nat) : Int)))) (lt rfl)) rfl rfl ?_
          refine sq (f_assign rfl (lt rfl)) rfl rfl ?_
          refine hits_nil ?_
          refine to_next ?_
          exact round_end (i + 1) (by omega) (by omega) ⟨rfl, rfl, rfl, rfl, congrArg (fun z : Int => some (V.d (.sc (.int .u64 z)))) (congrArg hiOf hn.symm), congrArg (fun z : Int => some (V.d (.sc (.int .u64 z)))) (congrArg loOf hn.symm), rfl, rfl, rfl, rfl, rfl, rfl, trivial⟩ rfl
      · have hat := bD_getD h1
        rw [hb] at hat
        have hn := natL_go h1 hb
        have hx := natL_take_lt l i
        refine hits_region ?_
        refine sq (f_move rfl (lt rfl)) rfl rfl ?_
        refine sq (f_move rfl (lt rfl)) rfl rfl ?_
        refine sq (f_idxList rfl rfl rfl un67 kd4 (Int.natCast_nonneg _) hat (lt rfl)) rfl rfl ?_
        refine sq (f_load kd4 rfl rfl (lt rfl)) rfl rfl ?_
        refine sq (f_un rfl rfl (lt rfl)) rfl rfl ?_
        refine hits_nil ?_
        refine to_next ?_
        refine hits_cond rfl (fun c1 => ?_) (fun c1 => ?_)
        case refine_1 => exact absurd c1 Bool.false_ne_true
        case refine_2 =>
          refine hits_skip ?_
          refine to_next ?_
          refine hits_seq ?_
          by_cases h2 : i < 64
          · have ha := hi_add hx h2
            rw [← hn] at ha
            refine hits_region ?_
            refine sq (f_move rfl (lt rfl)) rfl rfl ?_
            refine sq (f_bin rfl rfl (bT (decide_eq_true (by omega))) (lt rfl)) rfl rfl ?_
            refine hits_nil ?_
            refine to_next ?_
            refine hits_cond rfl (fun c2 => ?_) (fun c2 => ?_)
            case refine_2 => exact absurd c2 Bool.false_ne_true.symm
            case refine_1 =>
              refine hits_drawn mixed ?_
              refine dq (f_fieldAddr rfl kf27_2 rfl (lt rfl)) rfl rfl ?_
              refine dq (f_load kd22 rfl rfl (lt rfl)) rfl rfl ?_
              refine dq (f_move rfl (lt rfl)) rfl rfl ?_
              refine dq (f_shlI rfl rfl (by omega) (one_shl h2) (lt rfl)) rfl rfl ?_
              refine dq (f_bin rfl rfl (iT (((or_nat (lo_lt _) (pow_lt64 h2)).trans ha.2.symm))) (lt rfl)) rfl rfl ?_
              refine dq (f_fieldAddr rfl kf27_2 rfl (lt rfl)) rfl rfl ?_
              refine dq (f_store kd22 rfl rfl rfl rfl rfl) rfl rfl ?_
              refine dq_nil rfl ?_
              refine in_next ?_
              refine to_next ?_
              refine hits_region ?_
              refine sq (f_move rfl (lt rfl)) rfl rfl ?_
              refine sq (f_bin rfl rfl (iT ((wrap_succ (by omega) : _ = ((i + 1 : Nat) : Int)))) (lt rfl)) rfl rfl ?_
              refine sq (f_assign rfl (lt rfl)) rfl rfl ?_
              refine hits_nil ?_
              refine to_next ?_
              exact round_end (i + 1) (by omega) (by omega) ⟨rfl, rfl, rfl, rfl, congrArg (fun z : Int => some (V.d (.sc (.int .u64 z)))) ha.1.symm, rfl, rfl, rfl, rfl, rfl, rfl, rfl, trivial⟩ rfl
          · have ha := hi_add2 hx (by omega)
            rw [← hn] at ha
            have hx2 : natL (l.take i) / 2 ^ 64 < 2 ^ 64 := hi_lt (Nat.lt_of_lt_of_le hx (Nat.pow_le_pow_right (by decide) (by omega)))
            refine hits_region ?_
            refine sq (f_move rfl (lt rfl)) rfl rfl ?_
            refine sq (f_bin rfl rfl (bT (decide_eq_false (by omega))) (lt rfl)) rfl rfl ?_
            refine hits_nil ?_
            refine to_next ?_
            refine hits_cond rfl (fun c2 => ?_) (fun c2 => ?_)
            case refine_1 => exact absurd c2 Bool.false_ne_true
            case refine_2 =>
              refine hits_drawn mixed ?_
              refine dq (f_fieldAddr rfl kf27_1 rfl (lt rfl)) rfl rfl ?_
              refine dq (f_load kd22 rfl rfl (lt rfl)) rfl rfl ?_
              refine dq (f_move rfl (lt rfl)) rfl rfl ?_
              refine dq (f_bin rfl rfl (iT (((IntWalk.i64_in _ (by omega)).trans (by omega) : _ = ((i - 64 : Nat) : Int)))) (lt rfl)) rfl rfl ?_
              refine dq (f_shlI rfl rfl (by omega) (one_shl (by omega)) (lt rfl)) rfl rfl ?_
              refine dq (f_bin rfl rfl (iT (((or_nat hx2 (pow_lt64 (by omega))).trans ha.1.symm))) (lt rfl)) rfl rfl ?_
              refine dq (f_fieldAddr rfl kf27_1 rfl (lt rfl)) rfl rfl ?_
              refine dq (f_store kd22 rfl rfl rfl rfl rfl) rfl rfl ?_
              refine dq_nil rfl ?_
              refine in_next ?_
              refine to_next ?_
              refine hits_region ?_
              refine sq (f_move rfl (lt rfl)) rfl rfl ?_
              refine sq (f_bin rfl rfl (iT ((wrap_succ (by omega) : _ = ((i + 1 : Nat) : Int)))) (lt rfl)) rfl rfl ?_
              refine sq (f_assign rfl (lt rfl)) rfl rfl ?_
              refine hits_nil ?_
              refine to_next ?_
              exact round_end (i + 1) (by omega) (by omega) ⟨rfl, rfl, rfl, rfl, rfl, congrArg (fun z : Int => some (V.d (.sc (.int .u64 z)))) ha.2.symm, rfl, rfl, rfl, rfl, rfl, rfl, trivial⟩ rfl
  · obtain rfl : i = l.length := by omega
    refine hits_region ?_
    refine sq (f_move rfl (lt rfl)) rfl rfl ?_
    refine sq (f_move rfl (lt rfl)) rfl rfl ?_
    refine sq (f_lenList rfl rfl un67 (lt rfl)) rfl rfl ?_
    refine sq (f_bin rfl rfl (bT (decide_eq_false (by omega))) (lt rfl)) rfl rfl ?_
    refine hits_nil ?_
    refine to_next ?_
    refine hits_cond rfl (fun c0 => ?_) (fun c0 => ?_)
    case refine_1 => exact absurd c0 Bool.false_ne_true
    case refine_2 =>
      refine hits_exit ?_
      refine to_exit ?_
      refine to_exit ?_
      refine in_hit rfl ?_
      refine to_next ?_
      refine hits_seq ?_
      refine hits_region ?_
      refine sq (f_load kd27 rfl rfl (lt rfl)) rfl rfl ?_
      refine sq (f_store kd27 rfl rfl rfl rfl rfl) rfl rfl ?_
      refine hits_nil ?_
      refine to_next ?_
      refine hits_ret ?_
      exact hits_done (.inl rfl) rfl rfl (by rw [hl, List.take_length]; rfl)

set_option maxRecDepth 100000 in
theorem rof_ok {w v : Nat} (h0 : 1 ≤ w) (h : w ≤ 128) (hv : v < 2 ^ 128) : CallsP Tryd.prog Errs 70 [.sc (.int .i64 (w : Int)), .sc (.int .u64 (hiOf v)), .sc (.int .u64 (loOf v))] (.tup [bitD w (v % 2 ^ w), .sc (.int .i64 0)]) := by
  have hn := number_c (l := BitsMath.bl w v) (by rw [bl_length]; exact h)
  rw [bl_length, natL_bl] at hn
  refine callsP_of gs_errs Tryd.func70 rfl Tryd.ntmps70 rfl fun w0 S0 stab => ?_
  refine hits_seq ?_
  refine hits_region ?_
  refine sq (f_alloc zc27 (lt rfl)) rfl rfl ?_
  refine sq (f_assign rfl (lt rfl)) rfl rfl ?_
  refine hits_nil ?_
  refine to_next ?_
  refine hits_seq ?_
  refine hits_seq ?_
  refine hits_region ?_
  refine sq (f_move rfl (lt rfl)) rfl rfl ?_
  refine sq (f_bin rfl rfl (bT (decide_eq_false (by omega))) (lt rfl)) rfl rfl ?_
  refine sq (f_move rfl (lt rfl)) rfl rfl ?_
  refine sq_yes (f_move rfl (lt rfl)) rfl rfl rfl rfl (lt rfl) ?_
  refine sq_yes (f_bin rfl rfl (bT (decide_eq_false (by omega))) (lt rfl)) rfl rfl rfl rfl (lt rfl) ?_
  refine sq (f_pick rfl rfl (lt rfl)) rfl rfl ?_
  refine hits_nil ?_
  refine to_next ?_
  refine hits_cond rfl (fun c0 => ?_) (fun c0 => ?_)
  case refine_1 => exact absurd c0 Bool.false_ne_true
  case refine_2 =>
    refine hits_skip ?_
    refine to_next ?_
    refine hits_seq ?_
    refine hits_region ?_
    refine sq (f_move rfl (lt rfl)) rfl rfl ?_
    refine sq (f_move rfl (lt rfl)) rfl rfl ?_
    refine sq (f_move rfl (lt rfl)) rfl rfl ?_
    refine sq (f_build bu27 rfl rfl (lt rfl)) rfl rfl ?_
    refine sq (f_call en33 rfl (rbits_c h hv) (lt rfl)) rfl rfl ?_
    refine sq (f_call en84 rfl hn (lt rfl)) rfl rfl ?_
    refine sq (f_store kd27 rfl rfl rfl rfl rfl) rfl rfl ?_
    refine sq (f_assign rfl (lt rfl)) rfl rfl ?_
    refine hits_nil ?_
    refine to_next ?_
    refine hits_ret ?_
    exact hits_done (.inl rfl) rfl rfl rfl

set_option maxRecDepth 100000 in
theorem rof_no {y a b : Int} (h : ¬ (1 ≤ y ∧ y ≤ 128)) : CallsP Tryd.prog Errs 70 [.sc (.int .i64 y), .sc (.int .u64 a), .sc (.int .u64 b)] (.tup [.agg [.sc (.int .i64 0), .sc (.int .u64 0), .sc (.int .u64 0)], .sc (.int .i64 1)]) := by
  refine callsP_of gs_errs Tryd.func70 rfl Tryd.ntmps70 rfl fun w0 S0 stab => ?_
  refine hits_seq ?_
  refine hits_region ?_
  refine sq (f_alloc zc27 (lt rfl)) rfl rfl ?_
  refine sq (f_assign rfl (lt rfl)) rfl rfl ?_
  refine hits_nil ?_
  refine to_next ?_
  refine hits_seq ?_
  refine hits_seq ?_
  by_cases h1 : y < 1
  · refine hits_region ?_
    refine sq (f_move rfl (lt rfl)) rfl rfl ?_
    refine sq (f_bin rfl rfl (bT (decide_eq_true h1)) (lt rfl)) rfl rfl ?_
    refine sq (f_move rfl (lt rfl)) rfl rfl ?_
    refine sq_no rfl rfl rfl rfl rfl (lt rfl) (lt rfl) ?_
    refine sq_no rfl rfl rfl rfl rfl (lt rfl) (lt rfl) ?_
    refine sq (f_pick rfl rfl (lt rfl)) rfl rfl ?_
    refine hits_nil ?_
    refine to_next ?_
    refine hits_cond rfl (fun c0 => ?_) (fun c0 => ?_)
    case refine_2 => exact absurd c0 Bool.false_ne_true.symm
    case refine_1 =>
      refine hits_seq ?_
      refine hits_region ?_
      refine sq (f_build bu27 rfl rfl (lt rfl)) rfl rfl ?_
      refine sq (f_store kd27 rfl rfl rfl rfl rfl) rfl rfl ?_
      refine sq (f_assign rfl (lt rfl)) rfl rfl ?_
      refine hits_nil ?_
      refine to_next ?_
      refine hits_ret ?_
      refine to_ret ?_
      exact hits_done (.inl rfl) rfl rfl rfl
  · refine hits_region ?_
    refine sq (f_move rfl (lt rfl)) rfl rfl ?_
    refine sq (f_bin rfl rfl (bT (decide_eq_false h1)) (lt rfl)) rfl rfl ?_
    refine sq (f_move rfl (lt rfl)) rfl rfl ?_
    refine sq_yes (f_move rfl (lt rfl)) rfl rfl rfl rfl (lt rfl) ?_
    refine sq_yes (f_bin rfl rfl (bT (decide_eq_true (by omega))) (lt rfl)) rfl rfl rfl rfl (lt rfl) ?_
    refine sq (f_pick rfl rfl (lt rfl)) rfl rfl ?_
    refine hits_nil ?_
    refine to_next ?_
    refine hits_cond rfl (fun c0 => ?_) (fun c0 => ?_)
    case refine_2 => exact absurd c0 Bool.false_ne_true.symm
    case refine_1 =>
      refine hits_seq ?_
      refine hits_region ?_
      refine sq (f_build bu27 rfl rfl (lt rfl)) rfl rfl ?_
      refine sq (f_store kd27 rfl rfl rfl rfl rfl) rfl rfl ?_
      refine sq (f_assign rfl (lt rfl)) rfl rfl ?_
      refine hits_nil ?_
      refine to_next ?_
      refine hits_ret ?_
      refine to_ret ?_
      exact hits_done (.inl rfl) rfl rfl rfl

set_option maxRecDepth 100000 in
theorem rchk_ok {w v : Nat} (h0 : 1 ≤ w) (h : w ≤ 128) (hv : v < 2 ^ w) : CallsP Tryd.prog Errs 32 [bitD w v] (.sc (.bool true)) := by
  have ho := rof_ok h0 h (lt128 h hv)
  rw [Nat.mod_eq_of_lt hv] at ho
  refine callsP_of gs_errs Tryd.func32 rfl Tryd.ntmps32 rfl fun w0 S0 stab => ?_
  refine hits_seq ?_
  refine hits_region ?_
  refine sq (f_box rfl rfl (lt rfl)) rfl rfl ?_
  refine sq (f_assign rfl (lt rfl)) rfl rfl ?_
  refine hits_nil ?_
  refine to_next ?_
  refine hits_seq ?_
  refine hits_region ?_
  refine sq (f_fieldAddr rfl kf27_0 rfl (lt rfl)) rfl rfl ?_
  refine sq (f_load kd3 rfl rfl (lt rfl)) rfl rfl ?_
  refine sq (f_fieldAddr rfl kf27_1 rfl (lt rfl)) rfl rfl ?_
  refine sq (f_load kd22 rfl rfl (lt rfl)) rfl rfl ?_
  refine sq (f_fieldAddr rfl kf27_2 rfl (lt rfl)) rfl rfl ?_
  refine sq (f_load kd22 rfl rfl (lt rfl)) rfl rfl ?_
  refine sq (f_call en70 rfl ho (lt rfl)) rfl rfl ?_
  refine sq (f_move rfl (lt rfl)) rfl rfl ?_
  refine sq (f_extract rfl rfl (lt rfl)) rfl rfl ?_
  refine sq (f_extract rfl rfl (lt rfl)) rfl rfl ?_
  refine sq (f_alloc zc27 (lt rfl)) rfl rfl ?_
  refine sq (f_store kd27 rfl rfl rfl rfl rfl) rfl rfl ?_
  refine sq (f_assign rfl (lt rfl)) rfl rfl ?_
  refine hits_nil ?_
  refine to_next ?_
  refine hits_seq ?_
  refine hits_region ?_
  refine sq (f_move rfl (lt rfl)) rfl rfl ?_
  refine sq (f_bin rfl rfl (bT (b' := true) rfl) (lt rfl)) rfl rfl ?_
  refine sq (f_move rfl (lt rfl)) rfl rfl ?_
  refine sq_yes (f_load kd27 rfl rfl (lt rfl)) rfl rfl rfl rfl (lt rfl) ?_
  refine sq_yes (f_load kd27 rfl rfl (lt rfl)) rfl rfl rfl rfl (lt rfl) ?_
  refine sq_yes (f_eqB rfl rfl (eqT rfl) (lt rfl)) rfl rfl rfl rfl (lt rfl) ?_
  refine sq (f_pick rfl rfl (lt rfl)) rfl rfl ?_
  refine sq (f_assign rfl (lt rfl)) rfl rfl ?_
  refine hits_nil ?_
  refine to_next ?_
  refine hits_ret ?_
  exact hits_done (.inl rfl) rfl rfl rfl

set_option maxRecDepth 100000 in
theorem rchk_big {w v : Nat} (h0 : 1 ≤ w) (h : w ≤ 128) (hv : v < 2 ^ 128) (hb : ¬ v < 2 ^ w) : CallsP Tryd.prog Errs 32 [bitD w v] (.sc (.bool false)) := by
  have ho := rof_ok h0 h hv
  have hm := Nat.mod_lt v (Nat.two_pow_pos w)
  refine callsP_of gs_errs Tryd.func32 rfl Tryd.ntmps32 rfl fun w0 S0 stab => ?_
  refine hits_seq ?_
  refine hits_region ?_
  refine sq (f_box rfl rfl (lt rfl)) rfl rfl ?_
  refine sq (f_assign rfl (lt rfl)) rfl rfl ?_
  refine hits_nil ?_
  refine to_next ?_
  refine hits_seq ?_
  refine hits_region ?_
  refine sq (f_fieldAddr rfl kf27_0 rfl (lt rfl)) rfl rfl ?_
  refine sq (f_load kd3 rfl rfl (lt rfl)) rfl rfl ?_
  refine sq (f_fieldAddr rfl kf27_1 rfl (lt rfl)) rfl rfl ?_
  refine sq (f_load kd22 rfl rfl (lt rfl)) rfl rfl ?_
  refine sq (f_fieldAddr rfl kf27_2 rfl (lt rfl)) rfl rfl ?_
  refine sq (f_load kd22 rfl rfl (lt rfl)) rfl rfl ?_
  refine sq (f_call en70 rfl ho (lt rfl)) rfl rfl ?_
  refine sq (f_move rfl (lt rfl)) rfl rfl ?_
  refine sq (f_extract rfl rfl (lt rfl)) rfl rfl ?_
  refine sq (f_extract rfl rfl (lt rfl)) rfl rfl ?_
  refine sq (f_alloc zc27 (lt rfl)) rfl rfl ?_
  refine sq (f_store kd27 rfl rfl rfl rfl rfl) rfl rfl ?_
  refine sq (f_assign rfl (lt rfl)) rfl rfl ?_
  refine hits_nil ?_
  refine to_next ?_
  refine hits_seq ?_
  refine hits_region ?_
  refine sq (f_move rfl (lt rfl)) rfl rfl ?_
  refine sq (f_bin rfl rfl (bT (b' := true) rfl) (lt rfl)) rfl rfl ?_
  refine sq (f_move rfl (lt rfl)) rfl rfl ?_
  refine sq_yes (f_load kd27 rfl rfl (lt rfl)) rfl rfl rfl rfl (lt rfl) ?_
  refine sq_yes (f_load kd27 rfl rfl (lt rfl)) rfl rfl rfl rfl (lt rfl) ?_
  refine sq_yes (f_eqB rfl rfl (eqF (by omega)) (lt rfl)) rfl rfl rfl rfl (lt rfl) ?_
  refine sq (f_pick rfl rfl (lt rfl)) rfl rfl ?_
  refine sq (f_assign rfl (lt rfl)) rfl rfl ?_
  refine hits_nil ?_
  refine to_next ?_
  refine hits_ret ?_
  exact hits_done (.inl rfl) rfl rfl rfl

set_option maxRecDepth 100000 in
theorem rchk_no {y a b : Int} (h : ¬ (1 ≤ y ∧ y ≤ 128)) : CallsP Tryd.prog Errs 32 [.agg [.sc (.int .i64 y), .sc (.int .u64 a), .sc (.int .u64 b)]] (.sc (.bool false)) := by
  refine callsP_of gs_errs Tryd.func32 rfl Tryd.ntmps32 rfl fun w0 S0 stab => ?_
  refine hits_seq ?_
  refine hits_region ?_
  refine sq (f_box rfl rfl (lt rfl)) rfl rfl ?_
  refine sq (f_assign rfl (lt rfl)) rfl rfl ?_
  refine hits_nil ?_
  refine to_next ?_
  refine hits_seq ?_
  refine hits_region ?_
  refine sq (f_fieldAddr rfl kf27_0 rfl (lt rfl)) rfl rfl ?_
  refine sq (f_load kd3 rfl rfl (lt rfl)) rfl rfl ?_
  refine sq (f_fieldAddr rfl kf27_1 rfl (lt rfl)) rfl rfl ?_
  refine sq (f_load kd22 rfl rfl (lt rfl)) rfl rfl ?_
  refine sq (f_fieldAddr rfl kf27_2 rfl (lt rfl)) rfl rfl ?_
  refine sq (f_load kd22 rfl rfl (lt rfl)) rfl rfl ?_
  refine sq (f_call en70 rfl (rof_no h) (lt rfl)) rfl rfl ?_
  refine sq (f_move rfl (lt rfl)) rfl rfl ?_
  refine sq (f_extract rfl rfl (lt rfl)) rfl rfl ?_
  refine sq (f_extract rfl rfl (lt rfl)) rfl rfl ?_
  refine sq (f_alloc zc27 (lt rfl)) rfl rfl ?_
  refine sq (f_store kd27 rfl rfl rfl rfl rfl) rfl rfl ?_
  refine sq (f_assign rfl (lt rfl)) rfl rfl ?_
  refine hits_nil ?_
  refine to_next ?_
  refine hits_seq ?_
  refine hits_region ?_
  refine sq (f_move rfl (lt rfl)) rfl rfl ?_
  refine sq (f_bin rfl rfl (bT (b' := false) rfl) (lt rfl)) rfl rfl ?_
  refine sq (f_move rfl (lt rfl)) rfl rfl ?_
  refine sq_no rfl rfl rfl rfl rfl (lt rfl) (lt rfl) ?_
  refine sq_no rfl rfl rfl rfl rfl (lt rfl) (lt rfl) ?_
  refine sq_no rfl rfl rfl rfl rfl (lt rfl) (lt rfl) ?_
  refine sq (f_pick rfl rfl (lt rfl)) rfl rfl ?_
  refine sq (f_assign rfl (lt rfl)) rfl rfl ?_
  refine hits_nil ?_
  refine to_next ?_
  refine hits_ret ?_
  exact hits_done (.inl rfl) rfl rfl rfl

set_option maxRecDepth 100000 in
theorem rtext_c {w v : Nat} (h0 : 1 ≤ w) (h : w ≤ 128) (hv : v < 2 ^ w) : CallsP Tryd.prog Errs 18 [bitD w v] (.tup [.sc (.string (rtextB w v)), .sc (.int .i64 0)]) := by
  have hv' := lt128 h hv
  have hdl := decB_len w (by omega)
  have hx0 := hexB_len hv'
  refine callsP_of gs_errs Tryd.func18 rfl Tryd.ntmps18 rfl fun w0 S0 stab => ?_
  refine hits_seq ?_
  refine hits_region ?_
  refine sq (f_box rfl rfl (lt rfl)) rfl rfl ?_
  refine sq (f_assign rfl (lt rfl)) rfl rfl ?_
  refine sq (f_assign rfl (lt rfl)) rfl rfl ?_
  refine hits_nil ?_
  refine to_next ?_
  refine hits_seq ?_
  refine hits_seq ?_
  refine hits_region ?_
  refine sq (f_load kd27 rfl rfl (lt rfl)) rfl rfl ?_
  refine sq (f_call en32 rfl (rchk_ok h0 h hv) (lt rfl)) rfl rfl ?_
  refine sq (f_un rfl rfl (lt rfl)) rfl rfl ?_
  refine hits_nil ?_
  refine to_next ?_
  refine hits_cond rfl (fun c0 => ?_) (fun c0 => ?_)
  case refine_1 => exact absurd c0 Bool.false_ne_true
  case refine_2 =>
    refine hits_skip ?_
    refine to_next ?_
    refine hits_seq ?_
    refine hits_region ?_
    refine sq (f_load kd27 rfl rfl (lt rfl)) rfl rfl ?_
    refine sq (f_call en33 rfl (rbits_c h hv') (lt rfl)) rfl rfl ?_
    refine sq (f_assign rfl (lt rfl)) rfl rfl ?_
    refine hits_nil ?_
    refine to_next ?_
    refine hits_seq ?_
    refine hits_region ?_
    refine sq (f_assign rfl (lt rfl)) rfl rfl ?_
    refine hits_nil ?_
    refine to_next ?_
    refine hits_seq ?_
    refine hits_seq ?_
    refine hits_region ?_
    refine sq (f_assign rfl (lt rfl)) rfl rfl ?_
    refine hits_nil ?_
    refine to_next ?_
    refine hits_block ?_
    refine hits_loop (fun k : Nat => [(.slot 4, some (.d (.list 1 (bD (BitsMath.bl w v))))), (.slot 5, some (.d (.sc (.string (sk v k))))), (.slot 6, some (.d (.sc (.int .i64 ((k : Int) - 1))))), (.slot 1, some (.ptr 1 0)), (.cell 1 0, some (.d (.sc (.int .i64 (w : Int))))), (.cell 1 1, some (.d (.sc (.int .u64 (hiOf (v)))))), (.cell 1 2, some (.d (.sc (.int .u64 (loOf (v)))))), (.box 1, some (.ptr 1 0))]) (fun k : Nat => k ≤ 32) (fun k : Nat => k) 32 (Nat.le_refl _) ⟨rfl, congrArg (fun z => some (V.d (.sc (.string z)))) (sk_nil (by decide) (Nat.div_eq_of_lt hv')).symm, rfl, rfl, rfl, rfl, rfl, rfl, trivial⟩ rfl ?_
    intro k hk'
    refine hits_seq ?_
    refine hits_seq ?_
    by_cases hk : 0 < k
    · have hp := part_c (w := w) (v := v) (at_ := 4 * (k - 1)) (n := 4) h hv (by omega) (by decide)
      rw [digit_at] at hp
      have hd16 := Nat.mod_lt (v / 16 ^ (k - 1)) (show 0 < 16 by decide)
      have hsk := sk_len (k := k) hv'
      have hes := ext_le (⟨#[48, 49, 50, 51, 52, 53, 54, 55, 56, 57, 97, 98, 99, 100, 101, 102]⟩ : ByteArray) (v / 16 ^ (k - 1) % 16) (v / 16 ^ (k - 1) % 16 + 1)
      have hten : (⟨#[48, 49, 50, 51, 52, 53, 54, 55, 56, 57, 97, 98, 99, 100, 101, 102]⟩ : ByteArray).size = 16 := rfl
      refine hits_region ?_
      refine sq (f_move rfl (lt rfl)) rfl rfl ?_
      refine sq (f_bin rfl rfl (bT (decide_eq_true (by omega))) (lt rfl)) rfl rfl ?_
      refine hits_nil ?_
      refine to_next ?_
      refine hits_cond rfl (fun c1 => ?_) (fun c1 => ?_)
      case refine_2 => exact absurd c1 Bool.false_ne_true.symm
      case refine_1 =>
        refine hits_skip ?_
        refine to_next ?_
        refine hits_seq ?_
        refine hits_block ?_
        refine hits_seq ?_
        refine hits_region ?_
        refine sq (f_move rfl (lt rfl)) rfl rfl ?_
        refine sq (f_move rfl (lt rfl)) rfl rfl ?_
        refine sq (f_bin rfl rfl (iT (((IntWalk.i64_in _ (by omega)).trans (by omega) : _ = ((4 * (k - 1) : Nat) : Int)))) (lt rfl)) rfl rfl ?_
        refine sq (f_call en34 rfl hp (lt rfl)) rfl rfl ?_
        refine sq (f_assign rfl (lt rfl)) rfl rfl ?_
        refine hits_nil ?_
        refine to_next ?_
        refine hits_seq ?_
        by_cases hz : v / 16 ^ k = 0
        · have hn := sk_nil hk hz
          by_cases hd : 0 < v / 16 ^ (k - 1) % 16
          · refine hits_region ?_
            refine sq (f_move rfl (lt rfl)) rfl rfl ?_
            refine sq (f_bin rfl rfl (bT (str_ne0 hn)) (lt rfl)) rfl rfl ?_
            refine sq (f_move rfl (lt rfl)) rfl rfl ?_
            refine sq_yes (f_move rfl (lt rfl)) rfl rfl rfl rfl (lt rfl) ?_
            refine sq_yes (f_bin rfl rfl (bT (decide_eq_true (by omega))) (lt rfl)) rfl rfl rfl rfl (lt rfl) ?_
            refine sq (f_pick rfl rfl (lt rfl)) rfl rfl ?_
            refine sq (f_move rfl (lt rfl)) rfl rfl ?_
            refine sq_no rfl rfl rfl rfl rfl (lt rfl) (lt rfl) ?_
            refine sq_no rfl rfl rfl rfl rfl (lt rfl) (lt rfl) ?_
            refine sq (f_pick rfl rfl (lt rfl)) rfl rfl ?_
            refine hits_nil ?_
            refine to_next ?_
            refine hits_cond rfl (fun c2 => ?_) (fun c2 => ?_)
            case refine_2 => exact absurd c2 Bool.false_ne_true.symm
            case refine_1 =>
              refine hits_region ?_
              refine sq (f_move rfl (lt rfl)) rfl rfl ?_
              refine sq (f_move rfl (lt rfl)) rfl rfl ?_
              refine sq (f_move rfl (lt rfl)) rfl rfl ?_
              refine sq (f_bin rfl rfl (iT (((IntWalk.i64_in _ (by omega)).trans (by omega) : _ = ((v / 16 ^ (k - 1) % 16 + 1 : Nat) : Int)))) (lt rfl)) rfl rfl ?_
              refine sq (f_sliceStr rfl rfl rfl un9 (by omega) (by omega) (by show ((v / 16 ^ (k - 1) % 16 + 1 : Nat) : Int) ≤ 16; omega) (lt rfl)) rfl rfl ?_
              refine sq (f_catI (r := sk v (k - 1)) rfl rfl (by show (sk v k).size + (ByteArray.extract _ (v / 16 ^ (k - 1) % 16) (v / 16 ^ (k - 1) % 16 + 1)).size ≤ _; omega) (by show sk v k ++ ByteArray.extract _ (v / 16 ^ (k - 1) % 16) (v / 16 ^ (k - 1) % 16 + 1) = _; rw [ext_hx _ (by omega)]; exact sk_app hk (.inr (.inl hd))) (lt rfl)) rfl rfl ?_
              refine sq (f_assign rfl (lt rfl)) rfl rfl ?_
              refine hits_nil ?_
              refine in_next ?_
              refine to_next ?_
              refine hits_region ?_
              refine sq (f_move rfl (lt rfl)) rfl rfl ?_
              refine sq (f_bin rfl rfl (iT (((IntWalk.i64_in _ (by omega)) : _ = ((k : Int) - 1) - 1))) (lt rfl)) rfl rfl ?_
              refine sq (f_assign rfl (lt rfl)) rfl rfl ?_
              refine hits_nil ?_
              refine to_next ?_
              exact round_end (k - 1) (by omega) (by omega) ⟨rfl, rfl, congrArg (fun z : Int => some (V.d (.sc (.int .i64 z)))) (by omega), rfl, rfl, rfl, rfl, rfl, trivial⟩ rfl
          · by_cases h1 : k - 1 = 0
            · refine hits_region ?_
              refine sq (f_move rfl (lt rfl)) rfl rfl ?_
              refine sq (f_bin rfl rfl (bT (str_ne0 hn)) (lt rfl)) rfl rfl ?_
              refine sq (f_move rfl (lt rfl)) rfl rfl ?_
              refine sq_yes (f_move rfl (lt rfl)) rfl rfl rfl rfl (lt rfl) ?_
              refine sq_yes (f_bin rfl rfl (bT (decide_eq_false (by omega))) (lt rfl)) rfl rfl rfl rfl (lt rfl) ?_
              refine sq (f_pick rfl rfl (lt rfl)) rfl rfl ?_
              refine sq (f_move rfl (lt rfl)) rfl rfl ?_
              refine sq_yes (f_move rfl (lt rfl)) rfl rfl rfl rfl (lt rfl) ?_
              refine sq_yes (f_bin rfl rfl (bT (beq_iff_eq.mpr (by omega))) (lt rfl)) rfl rfl rfl rfl (lt rfl) ?_
              refine sq (f_pick rfl rfl (lt rfl)) rfl rfl ?_
              refine hits_nil ?_
              refine to_next ?_
              refine hits_cond rfl (fun c2 => ?_) (fun c2 => ?_)
              case refine_2 => exact absurd c2 Bool.false_ne_true.symm
              case refine_1 =>
                refine hits_region ?_
                refine sq (f_move rfl (lt rfl)) rfl rfl ?_
                refine sq (f_move rfl (lt rfl)) rfl rfl ?_
                refine sq (f_move rfl (lt rfl)) rfl rfl ?_
                refine sq (f_bin rfl rfl (iT (((IntWalk.i64_in _ (by omega)).trans (by omega) : _ = ((v / 16 ^ (k - 1) % 16 + 1 : Nat) : Int)))) (lt rfl)) rfl rfl ?_
                refine sq (f_sliceStr rfl rfl rfl un9 (by omega) (by omega) (by show ((v / 16 ^ (k - 1) % 16 + 1 : Nat) : Int) ≤ 16; omega) (lt rfl)) rfl rfl ?_
                refine sq (f_catI (r := sk v (k - 1)) rfl rfl (by show (sk v k).size + (ByteArray.extract _ (v / 16 ^ (k - 1) % 16) (v / 16 ^ (k - 1) % 16 + 1)).size ≤ _; omega) (by show sk v k ++ ByteArray.extract _ (v / 16 ^ (k - 1) % 16) (v / 16 ^ (k - 1) % 16 + 1) = _; rw [ext_hx _ (by omega)]; exact sk_app hk (.inr (.inr h1))) (lt rfl)) rfl rfl ?_
                refine sq (f_assign rfl (lt rfl)) rfl rfl ?_
                refine hits_nil ?_
                refine in_next ?_
                refine to_next ?_
                refine hits_region ?_
                refine sq (f_move rfl (lt rfl)) rfl rfl ?_
                refine sq (f_bin rfl rfl (iT (((IntWalk.i64_in _ (by omega)) : _ = ((k : Int) - 1) - 1))) (lt rfl)) rfl rfl ?_
                refine sq (f_assign rfl (lt rfl)) rfl rfl ?_
                refine hits_nil ?_
                refine to_next ?_
                exact round_end (k - 1) (by omega) (by omega) ⟨rfl, rfl, congrArg (fun z : Int => some (V.d (.sc (.int .i64 z)))) (by omega), rfl, rfl, rfl, rfl, rfl, trivial⟩ rfl
            · refine hits_region ?_
              refine sq (f_move rfl (lt rfl)) rfl rfl ?_
              refine sq (f_bin rfl rfl (bT (str_ne0 hn)) (lt rfl)) rfl rfl ?_
              refine sq (f_move rfl (lt rfl)) rfl rfl ?_
              refine sq_yes (f_move rfl (lt rfl)) rfl rfl rfl rfl (lt rfl) ?_
              refine sq_yes (f_bin rfl rfl (bT (decide_eq_false (by omega))) (lt rfl)) rfl rfl rfl rfl (lt rfl) ?_
              refine sq (f_pick rfl rfl (lt rfl)) rfl rfl ?_
              refine sq (f_move rfl (lt rfl)) rfl rfl ?_
              refine sq_yes (f_move rfl (lt rfl)) rfl rfl rfl rfl (lt rfl) ?_
              refine sq_yes (f_bin rfl rfl (bT (beq_eq_false_iff_ne.mpr (by omega))) (lt rfl)) rfl rfl rfl rfl (lt rfl) ?_
              refine sq (f_pick rfl rfl (lt rfl)) rfl rfl ?_
              refine hits_nil ?_
              refine to_next ?_
              refine hits_cond rfl (fun c2 => ?_) (fun c2 => ?_)
              case refine_1 => exact absurd c2 Bool.false_ne_true
              case refine_2 =>
                refine hits_skip ?_
                refine in_next ?_
                refine to_next ?_
                refine hits_region ?_
                refine sq (f_move rfl (lt rfl)) rfl rfl ?_
                refine sq (f_bin rfl rfl (iT (((IntWalk.i64_in _ (by omega)) : _ = ((k : Int) - 1) - 1))) (lt rfl)) rfl rfl ?_
                refine sq (f_assign rfl (lt rfl)) rfl rfl ?_
                refine hits_nil ?_
                refine to_next ?_
                exact round_end (k - 1) (by omega) (by omega) ⟨rfl, congrArg (fun z => some (V.d (.sc (.string z)))) (sk_skip hk hz hd h1), congrArg (fun z : Int => some (V.d (.sc (.int .i64 z)))) (by omega), rfl, rfl, rfl, rfl, rfl, trivial⟩ rfl
        · have hn := sk_ne hk hz
          refine hits_region ?_
          refine sq (f_move rfl (lt rfl)) rfl rfl ?_
          refine sq (f_bin rfl rfl (bT (str_ne hn)) (lt rfl)) rfl rfl ?_
          refine sq (f_move rfl (lt rfl)) rfl rfl ?_
          refine sq_no rfl rfl rfl rfl rfl (lt rfl) (lt rfl) ?_
          refine sq_no rfl rfl rfl rfl rfl (lt rfl) (lt rfl) ?_
          refine sq (f_pick rfl rfl (lt rfl)) rfl rfl ?_
          refine sq (f_move rfl (lt rfl)) rfl rfl ?_
          refine sq_no rfl rfl rfl rfl rfl (lt rfl) (lt rfl) ?_
          refine sq_no rfl rfl rfl rfl rfl (lt rfl) (lt rfl) ?_
          refine sq (f_pick rfl rfl (lt rfl)) rfl rfl ?_
          refine hits_nil ?_
          refine to_next ?_
          refine hits_cond rfl (fun c2 => ?_) (fun c2 => ?_)
          case refine_2 => exact absurd c2 Bool.false_ne_true.symm
          case refine_1 =>
            refine hits_region ?_
            refine sq (f_move rfl (lt rfl)) rfl rfl ?_
            refine sq (f_move rfl (lt rfl)) rfl rfl ?_
            refine sq (f_move rfl (lt rfl)) rfl rfl ?_
            refine sq (f_bin rfl rfl (iT (((IntWalk.i64_in _ (by omega)).trans (by omega) : _ = ((v / 16 ^ (k - 1) % 16 + 1 : Nat) : Int)))) (lt rfl)) rfl rfl ?_
            refine sq (f_sliceStr rfl rfl rfl un9 (by omega) (by omega) (by show ((v / 16 ^ (k - 1) % 16 + 1 : Nat) : Int) ≤ 16; omega) (lt rfl)) rfl rfl ?_
            refine sq (f_catI (r := sk v (k - 1)) rfl rfl (by show (sk v k).size + (ByteArray.extract _ (v / 16 ^ (k - 1) % 16) (v / 16 ^ (k - 1) % 16 + 1)).size ≤ _; omega) (by show sk v k ++ ByteArray.extract _ (v / 16 ^ (k - 1) % 16) (v / 16 ^ (k - 1) % 16 + 1) = _; rw [ext_hx _ (by omega)]; exact sk_app hk (.inl hz)) (lt rfl)) rfl rfl ?_
            refine sq (f_assign rfl (lt rfl)) rfl rfl ?_
            refine hits_nil ?_
            refine in_next ?_
            refine to_next ?_
            refine hits_region ?_
            refine sq (f_move rfl (lt rfl)) rfl rfl ?_
            refine sq (f_bin rfl rfl (iT (((IntWalk.i64_in _ (by omega)) : _ = ((k : Int) - 1) - 1))) (lt rfl)) rfl rfl ?_
            refine sq (f_assign rfl (lt rfl)) rfl rfl ?_
            refine hits_nil ?_
            refine to_next ?_
            exact round_end (k - 1) (by omega) (by omega) ⟨rfl, rfl, congrArg (fun z : Int => some (V.d (.sc (.int .i64 z)))) (by omega), rfl, rfl, rfl, rfl, rfl, trivial⟩ rfl
    · obtain rfl : k = 0 := by omega
      refine hits_region ?_
      refine sq (f_move rfl (lt rfl)) rfl rfl ?_
      refine sq (f_bin rfl rfl (bT (decide_eq_false (by omega))) (lt rfl)) rfl rfl ?_
      refine hits_nil ?_
      refine to_next ?_
      refine hits_cond rfl (fun c1 => ?_) (fun c1 => ?_)
      case refine_1 => exact absurd c1 Bool.false_ne_true
      case refine_2 =>
        refine hits_exit ?_
        refine to_exit ?_
        refine to_exit ?_
        refine in_hit rfl ?_
        refine to_next ?_
        refine hits_seq ?_
        refine hits_region ?_
        refine sq (f_fieldAddr rfl kf27_0 rfl (lt rfl)) rfl rfl ?_
        refine sq (f_load kd3 rfl rfl (lt rfl)) rfl rfl ?_
        refine sq (f_call en35 rfl (digits_c (by omega)) (lt rfl)) rfl rfl ?_
        refine sq (f_cat rfl rfl (by show (decB w).size + 1 ≤ _; omega) (lt rfl)) rfl rfl ?_
        refine sq (f_move rfl (lt rfl)) rfl rfl ?_
        refine sq (f_cat rfl rfl (by show (decB w ++ ⟨#[119]⟩).size + (hexB v).size ≤ _; rw [size_app]; have e1 : (⟨#[119]⟩ : ByteArray).size = 1 := rfl; omega) (lt rfl)) rfl rfl ?_
        refine sq (f_assign rfl (lt rfl)) rfl rfl ?_
        refine sq (f_assign rfl (lt rfl)) rfl rfl ?_
        refine hits_nil ?_
        refine to_next ?_
        refine hits_ret ?_
        exact hits_done (.inl rfl) rfl rfl rfl

set_option maxRecDepth 100000 in
theorem rtext_bad {d : D} (h : CallsP Tryd.prog Errs 32 [d] (.sc (.bool false))) (hd : ∃ y a b : Int, d = .agg [.sc (.int .i64 y), .sc (.int .u64 a), .sc (.int .u64 b)]) : CallsP Tryd.prog Errs 18 [d] (.tup [.sc (.string ⟨#[]⟩), .sc (.int .i64 1)]) := by
  obtain ⟨y, a, b, rfl⟩ := hd
  refine callsP_of gs_errs Tryd.func18 rfl Tryd.ntmps18 rfl fun w0 S0 stab => ?_
  refine hits_seq ?_
  refine hits_region ?_
  refine sq (f_box rfl rfl (lt rfl)) rfl rfl ?_
  refine sq (f_assign rfl (lt rfl)) rfl rfl ?_
  refine sq (f_assign rfl (lt rfl)) rfl rfl ?_
  refine hits_nil ?_
  refine to_next ?_
  refine hits_seq ?_
  refine hits_seq ?_
  refine hits_region ?_
  refine sq (f_load kd27 rfl rfl (lt rfl)) rfl rfl ?_
  refine sq (f_call en32 rfl h (lt rfl)) rfl rfl ?_
  refine sq (f_un rfl rfl (lt rfl)) rfl rfl ?_
  refine hits_nil ?_
  refine to_next ?_
  refine hits_cond rfl (fun c0 => ?_) (fun c0 => ?_)
  case refine_2 => exact absurd c0 Bool.false_ne_true.symm
  case refine_1 =>
    refine hits_seq ?_
    refine hits_region ?_
    refine sq (f_assign rfl (lt rfl)) rfl rfl ?_
    refine sq (f_assign rfl (lt rfl)) rfl rfl ?_
    refine hits_nil ?_
    refine to_next ?_
    refine hits_ret ?_
    refine to_ret ?_
    exact hits_done (.inl rfl) rfl rfl rfl

end Go.Proofs.YthhlnghpbjmfpaaDoor.AbBits


namespace Go.Proofs.YthhlnghpbjmfpaaDoor.AbBits
open Go Go.RowKit Go.Ab Go.Proofs Go.Proofs.YthhlnghpbjmfpaaDoor Go.Proofs.YthhlnghpbjmfpaaDoor.PTryd Go.Proofs.YthhlnghpbjmfpaaDoor.PTrydFns Go.Proofs.YthhlnghpbjmfpaaDoor.BitsMath Go.Proofs.YthhlnghpbjmfpaaDoor.Press
set_option linter.unusedVariables false
set_option linter.unusedSimpArgs false
theorem en39 : enters Tryd.prog 39 = true := by kernel_rfl
theorem en18 : enters Tryd.prog 18 = true := by kernel_rfl
theorem or_add {x y : Nat} (hy : y < 16) : (16 * x ||| y) = 16 * x + y := (Nat.two_pow_add_eq_or_of_lt (i := 4) hy x).symm
/-- One digit more, of 128 bits. -/
def nextV (v d : Nat) : Nat := (v * 16 + d) % 2 ^ 128
theorem nextV_lt (v d : Nat) : nextV v d < 2 ^ 128 := Nat.mod_lt _ (by decide)
theorem sh4 {x : Nat} (hx : x < 2 ^ 64) : IntKind.u64.wrap ((x : Int) * 2 ^ (min ((4 : Int)).toNat IntKind.u64.bits)) = ((16 * (x % 2 ^ 60) : Nat) : Int) := by
  rw [wrap_u64]; show (x : Int) * 16 % _ = _; omega
theorem sh60 {x : Nat} (hx : x < 2 ^ 64) : ((x : Int)).fdiv (2 ^ (min ((60 : Int)).toNat IntKind.u64.bits)) = ((x / 2 ^ 60 : Nat) : Int) := by
  rw [Int.fdiv_eq_ediv_of_nonneg _ (by decide)]; show (x : Int) / 1152921504606846976 = _; omega
theorem next_hi {v d : Nat} (hv : v < 2 ^ 128) (hd : d < 16) : Go.bits .or .u64 ((16 * (v / 2 ^ 64 % 2 ^ 60) : Nat) : Int) ((v % 2 ^ 64 / 2 ^ 60 : Nat) : Int) = hiOf (nextV v d) := by
  rw [or_nat (by omega) (by omega), or_add (by omega)]; unfold hiOf nextV; omega
theorem next_lo {v d : Nat} (hv : v < 2 ^ 128) (hd : d < 16) : Go.bits .or .u64 ((16 * (v % 2 ^ 64 % 2 ^ 60) : Nat) : Int) (d : Int) = loOf (nextV v d) := by
  rw [or_nat (by omega) (by omega), or_add hd]; unfold loOf nextV; omega
theorem dgI_nat {c : Nat} (h : ¬ dgI c < 0) : ∃ d : Nat, dgI c = (d : Int) ∧ d < 16 := by
  unfold dgI at *
  split at h
  · rename_i q; rw [if_pos q]; exact ⟨_, rfl, by omega⟩
  · rename_i q
    split at h
    · rename_i q2; rw [if_neg q, if_pos q2]; exact ⟨_, rfl, by omega⟩
    · exact absurd h (by decide)
theorem rtext_any (w v : Nat) (hv : v < 2 ^ 128) : ∃ (t : ByteArray) (e : Int), CallsP Tryd.prog Errs 18 [bitD w v] (.tup [.sc (.string t), .sc (.int .i64 e)]) ∧ (e = 1 ∨ (e = 0 ∧ 1 ≤ w ∧ w ≤ 128 ∧ v < 2 ^ w ∧ t = rtextB w v)) := by
  by_cases h : 1 ≤ w ∧ w ≤ 128
  · by_cases hb : v < 2 ^ w
    · exact ⟨_, _, rtext_c h.1 h.2 hb, .inr ⟨rfl, h.1, h.2, hb, rfl⟩⟩
    · exact ⟨_, _, rtext_bad (rchk_big h.1 h.2 hv hb) ⟨_, _, _, rfl⟩, .inl rfl⟩
  · exact ⟨_, _, rtext_bad (rchk_no (by omega)) ⟨_, _, _, rfl⟩, .inl rfl⟩
/-- What decimal digits, what hexadecimal digits come to. -/
def wv (l : List UInt8) : Nat := l.foldl (fun a c => 10 * a + (c.toNat - 48)) 0
theorem wv_snoc (l : List UInt8) (c : UInt8) : wv (l ++ [c]) = 10 * wv l + (c.toNat - 48) := by simp [wv]
def hv16 (l : List UInt8) : Nat := l.foldl (fun a c => a * 16 + (dgI c.toNat).toNat) 0
theorem hv_snoc (l : List UInt8) (c : UInt8) : hv16 (l ++ [c]) = hv16 l * 16 + (dgI c.toNat).toNat := by simp [hv16]
theorem fold_ge (l : List UInt8) : ∀ a, a ≤ l.foldl (fun a c => a * 16 + (dgI c.toNat).toNat) a := by
  induction l with
  | nil => intro a; exact Nat.le_refl _
  | cons c l ih => intro a; exact Nat.le_trans (show a ≤ a * 16 + (dgI c.toNat).toNat by omega) (ih _)
theorem hv_take (l : List UInt8) (j : Nat) : hv16 (l.take j) ≤ hv16 l := by
  have e : hv16 l = (l.drop j).foldl (fun a c => a * 16 + (dgI c.toNat).toNat) (hv16 (l.take j)) := by
    conv => lhs; rw [← List.take_append_drop j l]
    unfold hv16; rw [List.foldl_append]
  rw [e]; exact fold_ge _ _
theorem wfold_ge (l : List UInt8) : ∀ a, a ≤ l.foldl (fun a c => 10 * a + (c.toNat - 48)) a := by
  induction l with
  | nil => intro a; exact Nat.le_refl _
  | cons c l ih => intro a; exact Nat.le_trans (show a ≤ 10 * a + (c.toNat - 48) by omega) (ih _)
theorem wv_take (l : List UInt8) (j : Nat) : wv (l.take j) ≤ wv l := by
  have e : wv l = (l.drop j).foldl (fun a c => 10 * a + (c.toNat - 48)) (wv (l.take j)) := by
    conv => lhs; rw [← List.take_append_drop j l]
    unfold wv; rw [List.foldl_append]
  rw [e]; exact wfold_ge _ _
theorem take_snoc' {l : List UInt8} {i : Nat} {c : UInt8} (h : l[i]? = some c) : l.take (i + 1) = l.take i ++ [c] := by
  rw [List.take_add_one, h]; rfl
theorem at_D {D H : List UInt8} {L : List UInt8} (hL : L = D ++ 119 :: H) {k : Nat} {c : UInt8} (h : D[k]? = some c) : L[k]? = some c := by
  rw [hL, List.getElem?_append_left (List.getElem?_eq_some_iff.mp h).1, h]
theorem at_w {D H : List UInt8} {L : List UInt8} (hL : L = D ++ 119 :: H) : L[D.length]? = some 119 := by
  rw [hL, List.getElem?_append_right (Nat.le_refl _)]; simp
theorem at_H {D H : List UInt8} {L : List UInt8} (hL : L = D ++ 119 :: H) {j : Nat} {c : UInt8} (h : H[j]? = some c) : L[D.length + 1 + j]? = some c := by
  rw [hL, List.getElem?_append_right (by omega), show D.length + 1 + j - D.length = j + 1 from by omega, List.getElem?_cons_succ, h]

set_option maxHeartbeats 4000000 in
set_option maxRecDepth 100000 in
theorem rparse_no (s : ByteArray) (hs : s.size ≤ 281474976710656) (h : ∀ w v, 1 ≤ w → w ≤ 128 → v < 2 ^ w → rtextB w v ≠ s) : CallsP Tryd.prog Errs 20 [.sc (.string s)] (.tup [.agg [.sc (.int .i64 0), .sc (.int .u64 0), .sc (.int .u64 0)], .sc (.int .i64 8)]) := by
  refine callsP_of gs_errs Tryd.func20 rfl Tryd.ntmps20 rfl fun w0 S0 stab => ?_
  refine hits_seq ?_
  refine hits_region ?_
  refine sq (f_alloc zc27 (lt rfl)) rfl rfl ?_
  refine sq (f_assign rfl (lt rfl)) rfl rfl ?_
  refine hits_nil ?_
  refine to_next ?_
  refine hits_seq ?_
  refine hits_region ?_
  refine sq (f_assign rfl (lt rfl)) rfl rfl ?_
  refine hits_nil ?_
  refine to_next ?_
  refine hits_seq ?_
  refine hits_region ?_
  refine sq (f_assign rfl (lt rfl)) rfl rfl ?_
  refine hits_nil ?_
  refine to_next ?_
  refine hits_seq ?_
  refine hits_block ?_
  refine hits_via (fun x : Nat × Nat => [(.slot 0, some (.d (.sc (.string s)))), (.slot 4, some (.d (.sc (.int .i64 (x.2 : Int))))), (.slot 5, some (.d (.sc (.int .i64 (x.1 : Int))))), (.slot 2, some (.ptr 2 0)), (.cell 2 0, some (.d (.sc (.int .i64 0)))), (.cell 2 1, some (.d (.sc (.int .u64 0)))), (.cell 2 2, some (.d (.sc (.int .u64 0)))), (.box 2, some (.ptr 2 0))]) (fun x : Nat × Nat => x.1 ≤ 3 ∧ x.2 < 1000) 0 (fun rest => ?_) ?_
  · refine hits_loop (fun x : Nat × Nat => [(.slot 0, some (.d (.sc (.string s)))), (.slot 4, some (.d (.sc (.int .i64 (x.2 : Int))))), (.slot 5, some (.d (.sc (.int .i64 (x.1 : Int))))), (.slot 2, some (.ptr 2 0)), (.cell 2 0, some (.d (.sc (.int .i64 0)))), (.cell 2 1, some (.d (.sc (.int .u64 0)))), (.cell 2 2, some (.d (.sc (.int .u64 0)))), (.box 2, some (.ptr 2 0))]) (fun x : Nat × Nat => x.1 ≤ 3 ∧ x.2 < 10 ^ x.1) (fun x : Nat × Nat => 3 - x.1) (0, 0) ⟨by decide, by decide⟩ ⟨rfl, rfl, rfl, rfl, rfl, rfl, rfl, rfl, trivial⟩ rfl ?_
    intro x hx
    obtain ⟨k, w⟩ := x
    obtain ⟨hk3, hw⟩ := hx
    simp only at hk3 hw
    have hp3 : 10 ^ k ≤ 1000 := Nat.pow_le_pow_right (by decide) hk3
    change Hits _ [(.slot 0, some (.d (.sc (.string s)))), (.slot 4, some (.d (.sc (.int .i64 (w : Int))))), (.slot 5, some (.d (.sc (.int .i64 (k : Int))))), (.slot 2, some (.ptr 2 0)), (.cell 2 0, some (.d (.sc (.int .i64 0)))), (.cell 2 1, some (.d (.sc (.int .u64 0)))), (.cell 2 2, some (.d (.sc (.int .u64 0)))), (.box 2, some (.ptr 2 0))] _
    refine hits_seq ?_
    refine hits_seq ?_
    by_cases a1 : k < s.size
    · by_cases a2 : k < 3
      · obtain ⟨c, hat⟩ : ∃ c, s.data.toList[k]? = some c := ⟨_, List.getElem?_eq_getElem (by simpa using a1)⟩
        have hc : c.toNat < 256 := c.toNat_lt
        by_cases a3 : 48 ≤ c.toNat
        · by_cases a4 : c.toNat ≤ 57
          · have hp : 10 ^ k ≤ 100 := Nat.pow_le_pow_right (by decide) (show k ≤ 2 by omega)
            have hp2 : 10 ^ (k + 1) = 10 ^ k * 10 := Nat.pow_succ _ _
            refine hits_region ?_
            refine sq (f_move rfl (lt rfl)) rfl rfl ?_
            refine sq (f_move rfl (lt rfl)) rfl rfl ?_
            refine sq (f_lenStr rfl un9 (lt rfl)) rfl rfl ?_
            refine sq (f_bin rfl rfl (bT (decide_eq_true (by omega))) (lt rfl)) rfl rfl ?_
            refine sq (f_move rfl (lt rfl)) rfl rfl ?_
            refine sq_yes (f_move rfl (lt rfl)) rfl rfl rfl rfl (lt rfl) ?_
            refine sq_yes (f_bin rfl rfl (bT (decide_eq_true (by omega))) (lt rfl)) rfl rfl rfl rfl (lt rfl) ?_
            refine sq (f_pick rfl rfl (lt rfl)) rfl rfl ?_
            refine sq (f_move rfl (lt rfl)) rfl rfl ?_
            refine sq_yes (f_move rfl (lt rfl)) rfl rfl rfl rfl (lt rfl) ?_
            refine sq_yes (f_move rfl (lt rfl)) rfl rfl rfl rfl (lt rfl) ?_
            refine sq_yes (f_idxS rfl rfl un9 hat (lt rfl)) rfl rfl rfl rfl (lt rfl) ?_
            refine sq_yes (f_bin rfl rfl (bT (decide_eq_true (by omega))) (lt rfl)) rfl rfl rfl rfl (lt rfl) ?_
            refine sq (f_pick rfl rfl (lt rfl)) rfl rfl ?_
            refine sq (f_move rfl (lt rfl)) rfl rfl ?_
            refine sq_yes (f_move rfl (lt rfl)) rfl rfl rfl rfl (lt rfl) ?_
            refine sq_yes (f_move rfl (lt rfl)) rfl rfl rfl rfl (lt rfl) ?_
            refine sq_yes (f_idxS rfl rfl un9 hat (lt rfl)) rfl rfl rfl rfl (lt rfl) ?_
            refine sq_yes (f_bin rfl rfl (bT (decide_eq_true (by omega))) (lt rfl)) rfl rfl rfl rfl (lt rfl) ?_
            refine sq (f_pick rfl rfl (lt rfl)) rfl rfl ?_
            refine hits_nil ?_
            refine to_next ?_
            refine hits_cond rfl (fun c0 => ?_) (fun c0 => ?_)
            case refine_2 => exact absurd c0 Bool.false_ne_true.symm
            case refine_1 =>
              refine hits_skip ?_
              refine to_next ?_
              refine hits_block ?_
              refine hits_seq ?_
              refine hits_region ?_
              refine sq (f_move rfl (lt rfl)) rfl rfl ?_
              refine sq (f_bin rfl rfl (iT (((IntWalk.i64_in _ (by omega)).trans (by omega) : _ = ((10 * w : Nat) : Int)))) (lt rfl)) rfl rfl ?_
              refine sq (f_move rfl (lt rfl)) rfl rfl ?_
              refine sq (f_move rfl (lt rfl)) rfl rfl ?_
              refine sq (f_idxS rfl rfl un9 hat (lt rfl)) rfl rfl ?_
              refine sq (f_bin rfl rfl (iT ((u8_sub hc a3 : _ = ((c.toNat - 48 : Nat) : Int)))) (lt rfl)) rfl rfl ?_
              refine sq (f_convI rfl us5 un3 (IntWalk.i64_in _ (by omega)) (lt rfl)) rfl rfl ?_
              refine sq (f_bin rfl rfl (iT (((IntWalk.i64_in _ (by omega)).trans (by omega) : _ = ((10 * w + (c.toNat - 48) : Nat) : Int)))) (lt rfl)) rfl rfl ?_
              refine sq (f_assign rfl (lt rfl)) rfl rfl ?_
              refine hits_nil ?_
              refine to_next ?_
              refine hits_region ?_
              refine sq (f_move rfl (lt rfl)) rfl rfl ?_
              refine sq (f_bin rfl rfl (iT (((IntWalk.i64_in _ (by omega)).trans (by omega) : _ = ((k + 1 : Nat) : Int)))) (lt rfl)) rfl rfl ?_
              refine sq (f_assign rfl (lt rfl)) rfl rfl ?_
              refine hits_nil ?_
              refine in_next ?_
              refine to_next ?_
              exact round_end (k + 1, 10 * w + (c.toNat - 48)) ⟨by show k + 1 ≤ 3; omega, by show _ < 10 ^ (k + 1); omega⟩ (by show 3 - (k + 1) < 3 - k; omega) ⟨rfl, rfl, rfl, rfl, rfl, rfl, rfl, rfl, trivial⟩ rfl
          · refine hits_region ?_
            refine sq (f_move rfl (lt rfl)) rfl rfl ?_
            refine sq (f_move rfl (lt rfl)) rfl rfl ?_
            refine sq (f_lenStr rfl un9 (lt rfl)) rfl rfl ?_
            refine sq (f_bin rfl rfl (bT (decide_eq_true (by omega))) (lt rfl)) rfl rfl ?_
            refine sq (f_move rfl (lt rfl)) rfl rfl ?_
            refine sq_yes (f_move rfl (lt rfl)) rfl rfl rfl rfl (lt rfl) ?_
            refine sq_yes (f_bin rfl rfl (bT (decide_eq_true (by omega))) (lt rfl)) rfl rfl rfl rfl (lt rfl) ?_
            refine sq (f_pick rfl rfl (lt rfl)) rfl rfl ?_
            refine sq (f_move rfl (lt rfl)) rfl rfl ?_
            refine sq_yes (f_move rfl (lt rfl)) rfl rfl rfl rfl (lt rfl) ?_
            refine sq_yes (f_move rfl (lt rfl)) rfl rfl rfl rfl (lt rfl) ?_
            refine sq_yes (f_idxS rfl rfl un9 hat (lt rfl)) rfl rfl rfl rfl (lt rfl) ?_
            refine sq_yes (f_bin rfl rfl (bT (decide_eq_true (by omega))) (lt rfl)) rfl rfl rfl rfl (lt rfl) ?_
            refine sq (f_pick rfl rfl (lt rfl)) rfl rfl ?_
            refine sq (f_move rfl (lt rfl)) rfl rfl ?_
            refine sq_yes (f_move rfl (lt rfl)) rfl rfl rfl rfl (lt rfl) ?_
            refine sq_yes (f_move rfl (lt rfl)) rfl rfl rfl rfl (lt rfl) ?_
            refine sq_yes (f_idxS rfl rfl un9 hat (lt rfl)) rfl rfl rfl rfl (lt rfl) ?_
            refine sq_yes (f_bin rfl rfl (bT (decide_eq_false (by omega))) (lt rfl)) rfl rfl rfl rfl (lt rfl) ?_
            refine sq (f_pick rfl rfl (lt rfl)) rfl rfl ?_
            refine hits_nil ?_
            refine to_next ?_
            refine hits_cond rfl (fun c0 => ?_) (fun c0 => ?_)
            case refine_1 => exact absurd c0 Bool.false_ne_true
            case refine_2 =>
              refine hits_exit ?_
              refine to_exit ?_
              refine to_exit ?_
              exact hits_out rest (k, w) ⟨hk3, by show w < 1000; omega⟩ ⟨rfl, rfl, rfl, rfl, rfl, rfl, rfl, rfl, trivial⟩ rfl
        · refine hits_region ?_
          refine sq (f_move rfl (lt rfl)) rfl rfl ?_
          refine sq (f_move rfl (lt rfl)) rfl rfl ?_
          refine sq (f_lenStr rfl un9 (lt rfl)) rfl rfl ?_
          refine sq (f_bin rfl rfl (bT (decide_eq_true (by omega))) (lt rfl)) rfl rfl ?_
          refine sq (f_move rfl (lt rfl)) rfl rfl ?_
          refine sq_yes (f_move rfl (lt rfl)) rfl rfl rfl rfl (lt rfl) ?_
          refine sq_yes (f_bin rfl rfl (bT (decide_eq_true (by omega))) (lt rfl)) rfl rfl rfl rfl (lt rfl) ?_
          refine sq (f_pick rfl rfl (lt rfl)) rfl rfl ?_
          refine sq (f_move rfl (lt rfl)) rfl rfl ?_
          refine sq_yes (f_move rfl (lt rfl)) rfl rfl rfl rfl (lt rfl) ?_
          refine sq_yes (f_move rfl (lt rfl)) rfl rfl rfl rfl (lt rfl) ?_
          refine sq_yes (f_idxS rfl rfl un9 hat (lt rfl)) rfl rfl rfl rfl (lt rfl) ?_
          refine sq_yes (f_bin rfl rfl (bT (decide_eq_false (by omega))) (lt rfl)) rfl rfl rfl rfl (lt rfl) ?_
          refine sq (f_pick rfl rfl (lt rfl)) rfl rfl ?_
          refine sq (f_move rfl (lt rfl)) rfl rfl ?_
          refine sq_no rfl rfl rfl rfl rfl (lt rfl) (lt rfl) ?_
          refine sq_no rfl rfl rfl rfl rfl (lt rfl) (lt rfl) ?_
          refine sq_no rfl rfl rfl rfl rfl (lt rfl) (lt rfl) ?_
          refine sq_no rfl rfl rfl rfl rfl (lt rfl) (lt rfl) ?_
          refine sq (f_pick rfl rfl (lt rfl)) rfl rfl ?_
          refine hits_nil ?_
          refine to_next ?_
          refine hits_cond rfl (fun c0 => ?_) (fun c0 => ?_)
          case refine_1 => exact absurd c0 Bool.false_ne_true
          case refine_2 =>
            refine hits_exit ?_
            refine to_exit ?_
            refine to_exit ?_
            exact hits_out rest (k, w) ⟨hk3, by show w < 1000; omega⟩ ⟨rfl, rfl, rfl, rfl, rfl, rfl, rfl, rfl, trivial⟩ rfl
      · refine hits_region ?_
        refine sq (f_move rfl (lt rfl)) rfl rfl ?_
        refine sq (f_move rfl (lt rfl)) rfl rfl ?_
        refine sq (f_lenStr rfl un9 (lt rfl)) rfl rfl ?_
        refine sq (f_bin rfl rfl (bT (decide_eq_true (by omega))) (lt rfl)) rfl rfl ?_
        refine sq (f_move rfl (lt rfl)) rfl rfl ?_
        refine sq_yes (f_move rfl (lt rfl)) rfl rfl rfl rfl (lt rfl) ?_
        refine sq_yes (f_bin rfl rfl (bT (decide_eq_false (by omega))) (lt rfl)) rfl rfl rfl rfl (lt rfl) ?_
        refine sq (f_pick rfl rfl (lt rfl)) rfl rfl ?_
        refine sq (f_move rfl (lt rfl)) rfl rfl ?_
        refine sq_no rfl rfl rfl rfl rfl (lt rfl) (lt rfl) ?_
        refine sq_no rfl rfl rfl rfl rfl (lt rfl) (lt rfl) ?_
        refine sq_no rfl rfl rfl rfl rfl (lt rfl) (lt rfl) ?_
        refine sq_no rfl rfl rfl rfl rfl (lt rfl) (lt rfl) ?_
        refine sq (f_pick rfl rfl (lt rfl)) rfl rfl ?_
        refine sq (f_move rfl (lt rfl)) rfl rfl ?_
        refine sq_no rfl rfl rfl rfl rfl (lt rfl) (lt rfl) ?_
        refine sq_no rfl rfl rfl rfl rfl (lt rfl) (lt rfl) ?_
        refine sq_no rfl rfl rfl rfl rfl (lt rfl) (lt rfl) ?_
        refine sq_no rfl rfl rfl rfl rfl (lt rfl) (lt rfl) ?_
        refine sq (f_pick rfl rfl (lt rfl)) rfl rfl ?_
        refine hits_nil ?_
        refine to_next ?_
        refine hits_cond rfl (fun c0 => ?_) (fun c0 => ?_)
        case refine_1 => exact absurd c0 Bool.false_ne_true
        case refine_2 =>
          refine hits_exit ?_
          refine to_exit ?_
          refine to_exit ?_
          exact hits_out rest (k, w) ⟨hk3, by show w < 1000; omega⟩ ⟨rfl, rfl, rfl, rfl, rfl, rfl, rfl, rfl, trivial⟩ rfl
    · refine hits_region ?_
      refine sq (f_move rfl (lt rfl)) rfl rfl ?_
      refine sq (f_move rfl (lt rfl)) rfl rfl ?_
      refine sq (f_lenStr rfl un9 (lt rfl)) rfl rfl ?_
      refine sq (f_bin rfl rfl (bT (decide_eq_false (by omega))) (lt rfl)) rfl rfl ?_
      refine sq (f_move rfl (lt rfl)) rfl rfl ?_
      refine sq_no rfl rfl rfl rfl rfl (lt rfl) (lt rfl) ?_
      refine sq_no rfl rfl rfl rfl rfl (lt rfl) (lt rfl) ?_
      refine sq (f_pick rfl rfl (lt rfl)) rfl rfl ?_
      refine sq (f_move rfl (lt rfl)) rfl rfl ?_
      refine sq_no rfl rfl rfl rfl rfl (lt rfl) (lt rfl) ?_
      refine sq_no rfl rfl rfl rfl rfl (lt rfl) (lt rfl) ?_
      refine sq_no rfl rfl rfl rfl rfl (lt rfl) (lt rfl) ?_
      refine sq_no rfl rfl rfl rfl rfl (lt rfl) (lt rfl) ?_
      refine sq (f_pick rfl rfl (lt rfl)) rfl rfl ?_
      refine sq (f_move rfl (lt rfl)) rfl rfl ?_
      refine sq_no rfl rfl rfl rfl rfl (lt rfl) (lt rfl) ?_
      refine sq_no rfl rfl rfl rfl rfl (lt rfl) (lt rfl) ?_
      refine sq_no rfl rfl rfl rfl rfl (lt rfl) (lt rfl) ?_
      refine sq_no rfl rfl rfl rfl rfl (lt rfl) (lt rfl) ?_
      refine sq (f_pick rfl rfl (lt rfl)) rfl rfl ?_
      refine hits_nil ?_
      refine to_next ?_
      refine hits_cond rfl (fun c0 => ?_) (fun c0 => ?_)
      case refine_1 => exact absurd c0 Bool.false_ne_true
      case refine_2 =>
        refine hits_exit ?_
        refine to_exit ?_
        refine to_exit ?_
        exact hits_out rest (k, w) ⟨hk3, by show w < 1000; omega⟩ ⟨rfl, rfl, rfl, rfl, rfl, rfl, rfl, rfl, trivial⟩ rfl
  · intro x hx
    obtain ⟨k, w⟩ := x
    obtain ⟨hk3, hw3⟩ := hx
    simp only at hk3 hw3
    change Hits _ [(.slot 0, some (.d (.sc (.string s)))), (.slot 4, some (.d (.sc (.int .i64 (w : Int))))), (.slot 5, some (.d (.sc (.int .i64 (k : Int))))), (.slot 2, some (.ptr 2 0)), (.cell 2 0, some (.d (.sc (.int .i64 0)))), (.cell 2 1, some (.d (.sc (.int .u64 0)))), (.cell 2 2, some (.d (.sc (.int .u64 0)))), (.box 2, some (.ptr 2 0))] _
    refine in_hit rfl ?_
    refine to_next ?_
    refine hits_seq ?_
    refine hits_region ?_
    refine sq (f_move rfl (lt rfl)) rfl rfl ?_
    refine sq (f_build bu27 rfl rfl (lt rfl)) rfl rfl ?_
    refine sq (f_alloc zc27 (lt rfl)) rfl rfl ?_
    refine sq (f_store kd27 rfl rfl rfl rfl rfl) rfl rfl ?_
    refine hits_nil ?_
    refine to_next ?_
    refine hits_seq ?_
    refine hits_seq ?_
    refine hits_region ?_
    refine sq (f_move rfl (lt rfl)) rfl rfl ?_
    refine sq (f_bin rfl rfl (iT (((IntWalk.i64_in _ (by omega)).trans (by omega) : _ = ((k + 1 : Nat) : Int)))) (lt rfl)) rfl rfl ?_
    refine sq (f_assign rfl (lt rfl)) rfl rfl ?_
    refine hits_nil ?_
    refine to_next ?_
    refine hits_block ?_
    refine hits_via (fun v : Nat => [(.slot 0, some (.d (.sc (.string s)))), (.slot 6, some (.ptr 6 0)), (.cell 6 0, some (.d (.sc (.int .i64 (w : Int))))), (.cell 6 1, some (.d (.sc (.int .u64 (hiOf (v)))))), (.cell 6 2, some (.d (.sc (.int .u64 (loOf (v)))))), (.box 6, some (.ptr 6 0)), (.slot 2, some (.ptr 2 0)), (.cell 2 0, some (.d (.sc (.int .i64 0)))), (.cell 2 1, some (.d (.sc (.int .u64 0)))), (.cell 2 2, some (.d (.sc (.int .u64 0)))), (.box 2, some (.ptr 2 0))]) (fun v : Nat => v < 2 ^ 128) 2 (fun rest => ?_) ?_
    · refine hits_loop (fun x : Nat × Nat => [(.slot 0, some (.d (.sc (.string s)))), (.slot 5, some (.d (.sc (.int .i64 (k : Int))))), (.slot 7, some (.d (.sc (.int .i64 (x.1 : Int))))), (.slot 6, some (.ptr 6 0)), (.cell 6 0, some (.d (.sc (.int .i64 (w : Int))))), (.cell 6 1, some (.d (.sc (.int .u64 (hiOf (x.2)))))), (.cell 6 2, some (.d (.sc (.int .u64 (loOf (x.2)))))), (.box 6, some (.ptr 6 0)), (.slot 2, some (.ptr 2 0)), (.cell 2 0, some (.d (.sc (.int .i64 0)))), (.cell 2 1, some (.d (.sc (.int .u64 0)))), (.cell 2 2, some (.d (.sc (.int .u64 0)))), (.box 2, some (.ptr 2 0))]) (fun x : Nat × Nat => x.1 ≤ k + 34 ∧ x.2 < 2 ^ 128) (fun x : Nat × Nat => k + 34 - x.1) (k + 1, 0) ⟨by show k + 1 ≤ k + 34; omega, by show 0 < 2 ^ 128; decide⟩ ⟨rfl, rfl, rfl, rfl, rfl, congrArg (fun z : Int => some (V.d (.sc (.int .u64 z)))) (by simp [hiOf] : (0 : Int) = hiOf 0), congrArg (fun z : Int => some (V.d (.sc (.int .u64 z)))) (by simp [loOf] : (0 : Int) = loOf 0), rfl, rfl, rfl, rfl, rfl, rfl, trivial⟩ rfl ?_
      intro x hx
      obtain ⟨i, v⟩ := x
      obtain ⟨hi, hv⟩ := hx
      simp only at hi hv
      change Hits _ [(.slot 0, some (.d (.sc (.string s)))), (.slot 5, some (.d (.sc (.int .i64 (k : Int))))), (.slot 7, some (.d (.sc (.int .i64 (i : Int))))), (.slot 6, some (.ptr 6 0)), (.cell 6 0, some (.d (.sc (.int .i64 (w : Int))))), (.cell 6 1, some (.d (.sc (.int .u64 (hiOf (v)))))), (.cell 6 2, some (.d (.sc (.int .u64 (loOf (v)))))), (.box 6, some (.ptr 6 0)), (.slot 2, some (.ptr 2 0)), (.cell 2 0, some (.d (.sc (.int .i64 0)))), (.cell 2 1, some (.d (.sc (.int .u64 0)))), (.cell 2 2, some (.d (.sc (.int .u64 0)))), (.box 2, some (.ptr 2 0))] _
      refine hits_seq ?_
      refine hits_seq ?_
      by_cases b1 : i < s.size
      · by_cases b2 : i < k + 34
        · obtain ⟨c, hat⟩ : ∃ c, s.data.toList[i]? = some c := ⟨_, List.getElem?_eq_getElem (by simpa using b1)⟩
          have hc : c.toNat < 256 := c.toNat_lt
          refine hits_region ?_
          refine sq (f_move rfl (lt rfl)) rfl rfl ?_
          refine sq (f_move rfl (lt rfl)) rfl rfl ?_
          refine sq (f_lenStr rfl un9 (lt rfl)) rfl rfl ?_
          refine sq (f_bin rfl rfl (bT (decide_eq_true (by omega))) (lt rfl)) rfl rfl ?_
          refine sq (f_move rfl (lt rfl)) rfl rfl ?_
          refine sq_yes (f_move rfl (lt rfl)) rfl rfl rfl rfl (lt rfl) ?_
          refine sq_yes (f_move rfl (lt rfl)) rfl rfl rfl rfl (lt rfl) ?_
          refine sq_yes (f_bin rfl rfl (iT (((IntWalk.i64_in _ (by omega)).trans (by omega) : _ = ((k + 34 : Nat) : Int)))) (lt rfl)) rfl rfl rfl rfl (lt rfl) ?_
          refine sq_yes (f_bin rfl rfl (bT (decide_eq_true (by omega))) (lt rfl)) rfl rfl rfl rfl (lt rfl) ?_
          refine sq (f_pick rfl rfl (lt rfl)) rfl rfl ?_
          refine hits_nil ?_
          refine to_next ?_
          refine hits_cond rfl (fun c1 => ?_) (fun c1 => ?_)
          case refine_2 => exact absurd c1 Bool.false_ne_true.symm
          case refine_1 =>
            refine hits_skip ?_
            refine to_next ?_
            refine hits_seq ?_
            refine hits_block ?_
            refine hits_seq ?_
            refine hits_region ?_
            refine sq (f_move rfl (lt rfl)) rfl rfl ?_
            refine sq (f_move rfl (lt rfl)) rfl rfl ?_
            refine sq (f_idxS rfl rfl un9 hat (lt rfl)) rfl rfl ?_
            refine sq (f_call en39 rfl (rdigit_c hc) (lt rfl)) rfl rfl ?_
            refine sq (f_assign rfl (lt rfl)) rfl rfl ?_
            refine hits_nil ?_
            refine to_next ?_
            refine hits_seq ?_
            refine hits_seq ?_
            by_cases hd : dgI c.toNat < 0
            · refine hits_region ?_
              refine sq (f_move rfl (lt rfl)) rfl rfl ?_
              refine sq (f_bin rfl rfl (bT (decide_eq_true hd)) (lt rfl)) rfl rfl ?_
              refine hits_nil ?_
              refine to_next ?_
              refine hits_cond rfl (fun c2 => ?_) (fun c2 => ?_)
              case refine_2 => exact absurd c2 Bool.false_ne_true.symm
              case refine_1 =>
                refine hits_seq ?_
                refine hits_region ?_
                refine sq (f_build bu27 rfl rfl (lt rfl)) rfl rfl ?_
                refine sq (f_store kd27 rfl rfl rfl rfl rfl) rfl rfl ?_
                refine sq (f_assign rfl (lt rfl)) rfl rfl ?_
                refine hits_nil ?_
                refine to_next ?_
                refine hits_ret ?_
                refine to_ret ?_
                refine in_ret ?_
                refine to_ret ?_
                refine to_ret ?_
                refine in_ret ?_
                refine to_ret ?_
                exact hits_done (.inl rfl) rfl rfl rfl
            · obtain ⟨d, hde, hd16⟩ := dgI_nat hd
              rw [hde]
              refine hits_region ?_
              refine sq (f_move rfl (lt rfl)) rfl rfl ?_
              refine sq (f_bin rfl rfl (bT (decide_eq_false (by omega))) (lt rfl)) rfl rfl ?_
              refine hits_nil ?_
              refine to_next ?_
              refine hits_cond rfl (fun c2 => ?_) (fun c2 => ?_)
              case refine_1 => exact absurd c2 Bool.false_ne_true
              case refine_2 =>
                refine hits_skip ?_
                refine to_next ?_
                refine hits_seq ?_
                refine hits_region ?_
                refine sq (f_fieldAddr rfl kf27_1 rfl (lt rfl)) rfl rfl ?_
                refine sq (f_load kd22 rfl rfl (lt rfl)) rfl rfl ?_
                refine sq (f_shlI rfl rfl (by decide) (sh4 (hi_lt hv)) (lt rfl)) rfl rfl ?_
                refine sq (f_fieldAddr rfl kf27_2 rfl (lt rfl)) rfl rfl ?_
                refine sq (f_load kd22 rfl rfl (lt rfl)) rfl rfl ?_
                refine sq (f_shrI rfl rfl (by decide) (sh60 (lo_lt v)) (lt rfl)) rfl rfl ?_
                refine sq (f_bin rfl rfl (iT (next_hi (d := d) hv hd16)) (lt rfl)) rfl rfl ?_
                refine sq (f_fieldAddr rfl kf27_1 rfl (lt rfl)) rfl rfl ?_
                refine sq (f_store kd22 rfl rfl rfl rfl rfl) rfl rfl ?_
                refine hits_nil ?_
                refine to_next ?_
                refine hits_region ?_
                refine sq (f_fieldAddr rfl kf27_2 rfl (lt rfl)) rfl rfl ?_
                refine sq (f_load kd22 rfl rfl (lt rfl)) rfl rfl ?_
                refine sq (f_shlI rfl rfl (by decide) (sh4 (lo_lt v)) (lt rfl)) rfl rfl ?_
                refine sq (f_move rfl (lt rfl)) rfl rfl ?_
                refine sq (f_convI rfl us3 un22 (u64_in (by omega)) (lt rfl)) rfl rfl ?_
                refine sq (f_bin rfl rfl (iT (next_lo hv hd16)) (lt rfl)) rfl rfl ?_
                refine sq (f_fieldAddr rfl kf27_2 rfl (lt rfl)) rfl rfl ?_
                refine sq (f_store kd22 rfl rfl rfl rfl rfl) rfl rfl ?_
                refine hits_nil ?_
                refine in_next ?_
                refine to_next ?_
                refine hits_region ?_
                refine sq (f_move rfl (lt rfl)) rfl rfl ?_
                refine sq (f_bin rfl rfl (iT (((IntWalk.i64_in _ (by omega)).trans (by omega) : _ = ((i + 1 : Nat) : Int)))) (lt rfl)) rfl rfl ?_
                refine sq (f_assign rfl (lt rfl)) rfl rfl ?_
                refine hits_nil ?_
                refine to_next ?_
                exact round_end (i + 1, nextV v d) ⟨by show i + 1 ≤ k + 34; omega, nextV_lt v d⟩ (by show k + 34 - (i + 1) < k + 34 - i; omega) ⟨rfl, rfl, rfl, rfl, rfl, rfl, rfl, rfl, rfl, rfl, rfl, rfl, rfl, trivial⟩ rfl
        · refine hits_region ?_
          refine sq (f_move rfl (lt rfl)) rfl rfl ?_
          refine sq (f_move rfl (lt rfl)) rfl rfl ?_
          refine sq (f_lenStr rfl un9 (lt rfl)) rfl rfl ?_
          refine sq (f_bin rfl rfl (bT (decide_eq_true (by omega))) (lt rfl)) rfl rfl ?_
          refine sq (f_move rfl (lt rfl)) rfl rfl ?_
          refine sq_yes (f_move rfl (lt rfl)) rfl rfl rfl rfl (lt rfl) ?_
          refine sq_yes (f_move rfl (lt rfl)) rfl rfl rfl rfl (lt rfl) ?_
          refine sq_yes (f_bin rfl rfl (iT (((IntWalk.i64_in _ (by omega)).trans (by omega) : _ = ((k + 34 : Nat) : Int)))) (lt rfl)) rfl rfl rfl rfl (lt rfl) ?_
          refine sq_yes (f_bin rfl rfl (bT (decide_eq_false (by omega))) (lt rfl)) rfl rfl rfl rfl (lt rfl) ?_
          refine sq (f_pick rfl rfl (lt rfl)) rfl rfl ?_
          refine hits_nil ?_
          refine to_next ?_
          refine hits_cond rfl (fun c1 => ?_) (fun c1 => ?_)
          case refine_1 => exact absurd c1 Bool.false_ne_true
          case refine_2 =>
            refine hits_exit ?_
            refine to_exit ?_
            refine to_exit ?_
            exact hits_out rest v hv ⟨rfl, rfl, rfl, rfl, rfl, rfl, rfl, rfl, rfl, rfl, rfl, trivial⟩ rfl
      · refine hits_region ?_
        refine sq (f_move rfl (lt rfl)) rfl rfl ?_
        refine sq (f_move rfl (lt rfl)) rfl rfl ?_
        refine sq (f_lenStr rfl un9 (lt rfl)) rfl rfl ?_
        refine sq (f_bin rfl rfl (bT (decide_eq_false (by omega))) (lt rfl)) rfl rfl ?_
        refine sq (f_move rfl (lt rfl)) rfl rfl ?_
        refine sq_no rfl rfl rfl rfl rfl (lt rfl) (lt rfl) ?_
        refine sq_no rfl rfl rfl rfl rfl (lt rfl) (lt rfl) ?_
        refine sq_no rfl rfl rfl rfl rfl (lt rfl) (lt rfl) ?_
        refine sq_no rfl rfl rfl rfl rfl (lt rfl) (lt rfl) ?_
        refine sq (f_pick rfl rfl (lt rfl)) rfl rfl ?_
        refine hits_nil ?_
        refine to_next ?_
        refine hits_cond rfl (fun c1 => ?_) (fun c1 => ?_)
        case refine_1 => exact absurd c1 Bool.false_ne_true
        case refine_2 =>
          refine hits_exit ?_
          refine to_exit ?_
          refine to_exit ?_
          exact hits_out rest v hv ⟨rfl, rfl, rfl, rfl, rfl, rfl, rfl, rfl, rfl, rfl, rfl, trivial⟩ rfl
    · intro v hv
      refine in_hit rfl ?_
      refine to_next ?_
      refine hits_seq ?_
      obtain ⟨t, e, hT, hE⟩ := rtext_any w v hv
      · rcases hE with rfl | ⟨rfl, e1, e2, e3, rfl⟩
        · refine hits_region ?_
          refine sq (f_load kd27 rfl rfl (lt rfl)) rfl rfl ?_
          refine sq (f_call en18 rfl hT (lt rfl)) rfl rfl ?_
          refine sq (f_move rfl (lt rfl)) rfl rfl ?_
          refine sq (f_extract rfl rfl (lt rfl)) rfl rfl ?_
          refine sq (f_extract rfl rfl (lt rfl)) rfl rfl ?_
          refine sq (f_assign rfl (lt rfl)) rfl rfl ?_
          refine sq (f_assign rfl (lt rfl)) rfl rfl ?_
          refine hits_nil ?_
          refine to_next ?_
          refine hits_seq ?_
          refine hits_seq ?_
          refine hits_region ?_
          refine sq (f_move rfl (lt rfl)) rfl rfl ?_
          refine sq (f_bin rfl rfl (bT (b' := true) rfl) (lt rfl)) rfl rfl ?_
          refine sq (f_move rfl (lt rfl)) rfl rfl ?_
          refine sq_no rfl rfl rfl rfl rfl (lt rfl) (lt rfl) ?_
          refine sq_no rfl rfl rfl rfl rfl (lt rfl) (lt rfl) ?_
          refine sq_no rfl rfl rfl rfl rfl (lt rfl) (lt rfl) ?_
          refine sq (f_pick rfl rfl (lt rfl)) rfl rfl ?_
          refine hits_nil ?_
          refine to_next ?_
          refine hits_cond rfl (fun c3 => ?_) (fun c3 => ?_)
          case refine_2 => exact absurd c3 Bool.false_ne_true.symm
          case refine_1 =>
            refine hits_seq ?_
            refine hits_region ?_
            refine sq (f_build bu27 rfl rfl (lt rfl)) rfl rfl ?_
            refine sq (f_store kd27 rfl rfl rfl rfl rfl) rfl rfl ?_
            refine sq (f_assign rfl (lt rfl)) rfl rfl ?_
            refine hits_nil ?_
            refine to_next ?_
            refine hits_ret ?_
            refine to_ret ?_
            exact hits_done (.inl rfl) rfl rfl rfl
        · refine hits_region ?_
          refine sq (f_load kd27 rfl rfl (lt rfl)) rfl rfl ?_
          refine sq (f_call en18 rfl hT (lt rfl)) rfl rfl ?_
          refine sq (f_move rfl (lt rfl)) rfl rfl ?_
          refine sq (f_extract rfl rfl (lt rfl)) rfl rfl ?_
          refine sq (f_extract rfl rfl (lt rfl)) rfl rfl ?_
          refine sq (f_assign rfl (lt rfl)) rfl rfl ?_
          refine sq (f_assign rfl (lt rfl)) rfl rfl ?_
          refine hits_nil ?_
          refine to_next ?_
          refine hits_seq ?_
          refine hits_seq ?_
          refine hits_region ?_
          refine sq (f_move rfl (lt rfl)) rfl rfl ?_
          refine sq (f_bin rfl rfl (bT (b' := false) rfl) (lt rfl)) rfl rfl ?_
          refine sq (f_move rfl (lt rfl)) rfl rfl ?_
          refine sq_yes (f_move rfl (lt rfl)) rfl rfl rfl rfl (lt rfl) ?_
          refine sq_yes (f_move rfl (lt rfl)) rfl rfl rfl rfl (lt rfl) ?_
          refine sq_yes (f_bin rfl rfl (bT (str_ne (h w v e1 e2 e3))) (lt rfl)) rfl rfl rfl rfl (lt rfl) ?_
          refine sq (f_pick rfl rfl (lt rfl)) rfl rfl ?_
          refine hits_nil ?_
          refine to_next ?_
          refine hits_cond rfl (fun c3 => ?_) (fun c3 => ?_)
          case refine_2 => exact absurd c3 Bool.false_ne_true.symm
          case refine_1 =>
            refine hits_seq ?_
            refine hits_region ?_
            refine sq (f_build bu27 rfl rfl (lt rfl)) rfl rfl ?_
            refine sq (f_store kd27 rfl rfl rfl rfl rfl) rfl rfl ?_
            refine sq (f_assign rfl (lt rfl)) rfl rfl ?_
            refine hits_nil ?_
            refine to_next ?_
            refine hits_ret ?_
            refine to_ret ?_
            exact hits_done (.inl rfl) rfl rfl rfl

set_option maxHeartbeats 4000000 in
set_option maxRecDepth 100000 in
theorem rparse_yes (s : ByteArray) {D H : List UInt8} {w v : Nat} (hL : s.data.toList = D ++ 119 :: H) (hD : ∀ c ∈ D, 48 ≤ c.toNat ∧ c.toNat ≤ 57) (hD3 : D.length ≤ 3) (hw : wv D = w) (hH : ∀ c ∈ H, ¬ dgI c.toNat < 0) (hH33 : H.length ≤ 33) (hv : hv16 H = v) (h0 : 1 ≤ w) (h1 : w ≤ 128) (h2 : v < 2 ^ w) (ht : rtextB w v = s) : CallsP Tryd.prog Errs 20 [.sc (.string s)] (.tup [bitD w v, .sc (.int .i64 0)]) := by
  have hsz : s.size = D.length + 1 + H.length := by have := congrArg List.length hL; simp at this; omega
  have hv' := lt128 h1 h2
  refine callsP_of gs_errs Tryd.func20 rfl Tryd.ntmps20 rfl fun w0 S0 stab => ?_
  refine hits_seq ?_
  refine hits_region ?_
  refine sq (f_alloc zc27 (lt rfl)) rfl rfl ?_
  refine sq (f_assign rfl (lt rfl)) rfl rfl ?_
  refine hits_nil ?_
  refine to_next ?_
  refine hits_seq ?_
  refine hits_region ?_
  refine sq (f_assign rfl (lt rfl)) rfl rfl ?_
  refine hits_nil ?_
  refine to_next ?_
  refine hits_seq ?_
  refine hits_region ?_
  refine sq (f_assign rfl (lt rfl)) rfl rfl ?_
  refine hits_nil ?_
  refine to_next ?_
  refine hits_seq ?_
  refine hits_block ?_
  refine hits_via (fun _ : Unit => [(.slot 0, some (.d (.sc (.string s)))), (.slot 4, some (.d (.sc (.int .i64 (w : Int))))), (.slot 5, some (.d (.sc (.int .i64 (D.length : Int))))), (.slot 2, some (.ptr 2 0)), (.cell 2 0, some (.d (.sc (.int .i64 0)))), (.cell 2 1, some (.d (.sc (.int .u64 0)))), (.cell 2 2, some (.d (.sc (.int .u64 0)))), (.box 2, some (.ptr 2 0))]) (fun _ : Unit => True) 0 (fun rest => ?_) ?_
  · refine hits_loop (fun k : Nat => [(.slot 0, some (.d (.sc (.string s)))), (.slot 4, some (.d (.sc (.int .i64 (wv (D.take k) : Int))))), (.slot 5, some (.d (.sc (.int .i64 (k : Int))))), (.slot 2, some (.ptr 2 0)), (.cell 2 0, some (.d (.sc (.int .i64 0)))), (.cell 2 1, some (.d (.sc (.int .u64 0)))), (.cell 2 2, some (.d (.sc (.int .u64 0)))), (.box 2, some (.ptr 2 0))]) (fun k : Nat => k ≤ D.length) (fun k : Nat => D.length - k) 0 (Nat.zero_le _) ⟨rfl, congrArg (fun z : Nat => some (V.d (.sc (.int .i64 (z : Int))))) (by simp [wv] : 0 = wv (D.take 0)), rfl, rfl, rfl, rfl, rfl, rfl, trivial⟩ rfl ?_
    intro k hk
    refine hits_seq ?_
    refine hits_seq ?_
    by_cases a1 : k < D.length
    · obtain ⟨c, hc0⟩ : ∃ c, D[k]? = some c := ⟨_, List.getElem?_eq_getElem a1⟩
      have hat := at_D hL hc0
      obtain ⟨c1, c2⟩ := hD c (List.mem_of_getElem? hc0)
      have hc : c.toNat < 256 := c.toNat_lt
      have hle := wv_take D (k + 1)
      have hle0 := wv_take D k
      have hsn : wv (D.take (k + 1)) = 10 * wv (D.take k) + (c.toNat - 48) := by rw [take_snoc' hc0, wv_snoc]
      refine hits_region ?_
      refine sq (f_move rfl (lt rfl)) rfl rfl ?_
      refine sq (f_move rfl (lt rfl)) rfl rfl ?_
      refine sq (f_lenStr rfl un9 (lt rfl)) rfl rfl ?_
      refine sq (f_bin rfl rfl (bT (decide_eq_true (by omega))) (lt rfl)) rfl rfl ?_
      refine sq (f_move rfl (lt rfl)) rfl rfl ?_
      refine sq_yes (f_move rfl (lt rfl)) rfl rfl rfl rfl (lt rfl) ?_
      refine sq_yes (f_bin rfl rfl (bT (decide_eq_true (by omega))) (lt rfl)) rfl rfl rfl rfl (lt rfl) ?_
      refine sq (f_pick rfl rfl (lt rfl)) rfl rfl ?_
      refine sq (f_move rfl (lt rfl)) rfl rfl ?_
      refine sq_yes (f_move rfl (lt rfl)) rfl rfl rfl rfl (lt rfl) ?_
      refine sq_yes (f_move rfl (lt rfl)) rfl rfl rfl rfl (lt rfl) ?_
      refine sq_yes (f_idxS rfl rfl un9 hat (lt rfl)) rfl rfl rfl rfl (lt rfl) ?_
      refine sq_yes (f_bin rfl rfl (bT (decide_eq_true (by omega))) (lt rfl)) rfl rfl rfl rfl (lt rfl) ?_
      refine sq (f_pick rfl rfl (lt rfl)) rfl rfl ?_
      refine sq (f_move rfl (lt rfl)) rfl rfl ?_
      refine sq_yes (f_move rfl (lt rfl)) rfl rfl rfl rfl (lt rfl) ?_
      refine sq_yes (f_move rfl (lt rfl)) rfl rfl rfl rfl (lt rfl) ?_
      refine sq_yes (f_idxS rfl rfl un9 hat (lt rfl)) rfl rfl rfl rfl (lt rfl) ?_
      refine sq_yes (f_bin rfl rfl (bT (decide_eq_true (by omega))) (lt rfl)) rfl rfl rfl rfl (lt rfl) ?_
      refine sq (f_pick rfl rfl (lt rfl)) rfl rfl ?_
      refine hits_nil ?_
      refine to_next ?_
      refine hits_cond rfl (fun c0 => ?_) (fun c0 => ?_)
      case refine_2 => exact absurd c0 Bool.false_ne_true.symm
      case refine_1 =>
        refine hits_skip ?_
        refine to_next ?_
        refine hits_block ?_
        refine hits_seq ?_
        refine hits_region ?_
        refine sq (f_move rfl (lt rfl)) rfl rfl ?_
        refine sq (f_bin rfl rfl (iT (((IntWalk.i64_in _ (by omega)).trans (by omega) : _ = ((10 * wv (D.take k) : Nat) : Int)))) (lt rfl)) rfl rfl ?_
        refine sq (f_move rfl (lt rfl)) rfl rfl ?_
        refine sq (f_move rfl (lt rfl)) rfl rfl ?_
        refine sq (f_idxS rfl rfl un9 hat (lt rfl)) rfl rfl ?_
        refine sq (f_bin rfl rfl (iT ((u8_sub hc c1 : _ = ((c.toNat - 48 : Nat) : Int)))) (lt rfl)) rfl rfl ?_
        refine sq (f_convI rfl us5 un3 (IntWalk.i64_in _ (by omega)) (lt rfl)) rfl rfl ?_
        refine sq (f_bin rfl rfl (iT (((IntWalk.i64_in _ (by omega)).trans (by rw [hsn]; omega) : _ = (wv (D.take (k + 1)) : Int)))) (lt rfl)) rfl rfl ?_
        refine sq (f_assign rfl (lt rfl)) rfl rfl ?_
        refine hits_nil ?_
        refine to_next ?_
        refine hits_region ?_
        refine sq (f_move rfl (lt rfl)) rfl rfl ?_
        refine sq (f_bin rfl rfl (iT (((IntWalk.i64_in _ (by omega)).trans (by omega) : _ = ((k + 1 : Nat) : Int)))) (lt rfl)) rfl rfl ?_
        refine sq (f_assign rfl (lt rfl)) rfl rfl ?_
        refine hits_nil ?_
        refine in_next ?_
        refine to_next ?_
        exact round_end (k + 1) (by omega) (by omega) ⟨rfl, rfl, rfl, rfl, rfl, rfl, rfl, rfl, trivial⟩ rfl
    · obtain rfl : k = D.length := by omega
      have hwk : wv (D.take D.length) = w := by rw [List.take_length, hw]
      have hat := at_w hL
      by_cases a2 : D.length < 3
      · refine hits_region ?_
        refine sq (f_move rfl (lt rfl)) rfl rfl ?_
        refine sq (f_move rfl (lt rfl)) rfl rfl ?_
        refine sq (f_lenStr rfl un9 (lt rfl)) rfl rfl ?_
        refine sq (f_bin rfl rfl (bT (decide_eq_true (by omega))) (lt rfl)) rfl rfl ?_
        refine sq (f_move rfl (lt rfl)) rfl rfl ?_
        refine sq_yes (f_move rfl (lt rfl)) rfl rfl rfl rfl (lt rfl) ?_
        refine sq_yes (f_bin rfl rfl (bT (decide_eq_true (by omega))) (lt rfl)) rfl rfl rfl rfl (lt rfl) ?_
        refine sq (f_pick rfl rfl (lt rfl)) rfl rfl ?_
        refine sq (f_move rfl (lt rfl)) rfl rfl ?_
        refine sq_yes (f_move rfl (lt rfl)) rfl rfl rfl rfl (lt rfl) ?_
        refine sq_yes (f_move rfl (lt rfl)) rfl rfl rfl rfl (lt rfl) ?_
        refine sq_yes (f_idxS rfl rfl un9 hat (lt rfl)) rfl rfl rfl rfl (lt rfl) ?_
        refine sq_yes (f_bin rfl rfl (bT (decide_eq_true (by decide))) (lt rfl)) rfl rfl rfl rfl (lt rfl) ?_
        refine sq (f_pick rfl rfl (lt rfl)) rfl rfl ?_
        refine sq (f_move rfl (lt rfl)) rfl rfl ?_
        refine sq_yes (f_move rfl (lt rfl)) rfl rfl rfl rfl (lt rfl) ?_
        refine sq_yes (f_move rfl (lt rfl)) rfl rfl rfl rfl (lt rfl) ?_
        refine sq_yes (f_idxS rfl rfl un9 hat (lt rfl)) rfl rfl rfl rfl (lt rfl) ?_
        refine sq_yes (f_bin rfl rfl (bT (decide_eq_false (by decide))) (lt rfl)) rfl rfl rfl rfl (lt rfl) ?_
        refine sq (f_pick rfl rfl (lt rfl)) rfl rfl ?_
        refine hits_nil ?_
        refine to_next ?_
        refine hits_cond rfl (fun c0 => ?_) (fun c0 => ?_)
        case refine_1 => exact absurd c0 Bool.false_ne_true
        case refine_2 =>
          refine hits_exit ?_
          refine to_exit ?_
          refine to_exit ?_
          exact hits_out rest () trivial ⟨rfl, congrArg (fun z : Nat => some (V.d (.sc (.int .i64 (z : Int))))) hwk, rfl, rfl, rfl, rfl, rfl, rfl, trivial⟩ rfl
      · refine hits_region ?_
        refine sq (f_move rfl (lt rfl)) rfl rfl ?_
        refine sq (f_move rfl (lt rfl)) rfl rfl ?_
        refine sq (f_lenStr rfl un9 (lt rfl)) rfl rfl ?_
        refine sq (f_bin rfl rfl (bT (decide_eq_true (by omega))) (lt rfl)) rfl rfl ?_
        refine sq (f_move rfl (lt rfl)) rfl rfl ?_
        refine sq_yes (f_move rfl (lt rfl)) rfl rfl rfl rfl (lt rfl) ?_
        refine sq_yes (f_bin rfl rfl (bT (decide_eq_false (by omega))) (lt rfl)) rfl rfl rfl rfl (lt rfl) ?_
        refine sq (f_pick rfl rfl (lt rfl)) rfl rfl ?_
        refine sq (f_move rfl (lt rfl)) rfl rfl ?_
        refine sq_no rfl rfl rfl rfl rfl (lt rfl) (lt rfl) ?_
        refine sq_no rfl rfl rfl rfl rfl (lt rfl) (lt rfl) ?_
        refine sq_no rfl rfl rfl rfl rfl (lt rfl) (lt rfl) ?_
        refine sq_no rfl rfl rfl rfl rfl (lt rfl) (lt rfl) ?_
        refine sq (f_pick rfl rfl (lt rfl)) rfl rfl ?_
        refine sq (f_move rfl (lt rfl)) rfl rfl ?_
        refine sq_no rfl rfl rfl rfl rfl (lt rfl) (lt rfl) ?_
        refine sq_no rfl rfl rfl rfl rfl (lt rfl) (lt rfl) ?_
        refine sq_no rfl rfl rfl rfl rfl (lt rfl) (lt rfl) ?_
        refine sq_no rfl rfl rfl rfl rfl (lt rfl) (lt rfl) ?_
        refine sq (f_pick rfl rfl (lt rfl)) rfl rfl ?_
        refine hits_nil ?_
        refine to_next ?_
        refine hits_cond rfl (fun c0 => ?_) (fun c0 => ?_)
        case refine_1 => exact absurd c0 Bool.false_ne_true
        case refine_2 =>
          refine hits_exit ?_
          refine to_exit ?_
          refine to_exit ?_
          exact hits_out rest () trivial ⟨rfl, congrArg (fun z : Nat => some (V.d (.sc (.int .i64 (z : Int))))) hwk, rfl, rfl, rfl, rfl, rfl, rfl, trivial⟩ rfl
  · intro x hx
    refine in_hit rfl ?_
    refine to_next ?_
    refine hits_seq ?_
    refine hits_region ?_
    refine sq (f_move rfl (lt rfl)) rfl rfl ?_
    refine sq (f_build bu27 rfl rfl (lt rfl)) rfl rfl ?_
    refine sq (f_alloc zc27 (lt rfl)) rfl rfl ?_
    refine sq (f_store kd27 rfl rfl rfl rfl rfl) rfl rfl ?_
    refine hits_nil ?_
    refine to_next ?_
    refine hits_seq ?_
    refine hits_seq ?_
    refine hits_region ?_
    refine sq (f_move rfl (lt rfl)) rfl rfl ?_
    refine sq (f_bin rfl rfl (iT (((IntWalk.i64_in _ (by omega)).trans (by omega) : _ = ((D.length + 1 : Nat) : Int)))) (lt rfl)) rfl rfl ?_
    refine sq (f_assign rfl (lt rfl)) rfl rfl ?_
    refine hits_nil ?_
    refine to_next ?_
    refine hits_block ?_
    refine hits_via (fun _ : Unit => [(.slot 0, some (.d (.sc (.string s)))), (.slot 6, some (.ptr 6 0)), (.cell 6 0, some (.d (.sc (.int .i64 (w : Int))))), (.cell 6 1, some (.d (.sc (.int .u64 (hiOf (v)))))), (.cell 6 2, some (.d (.sc (.int .u64 (loOf (v)))))), (.box 6, some (.ptr 6 0)), (.slot 2, some (.ptr 2 0)), (.cell 2 0, some (.d (.sc (.int .i64 0)))), (.cell 2 1, some (.d (.sc (.int .u64 0)))), (.cell 2 2, some (.d (.sc (.int .u64 0)))), (.box 2, some (.ptr 2 0))]) (fun _ : Unit => True) 2 (fun rest => ?_) ?_
    · refine hits_loop (fun j : Nat => [(.slot 0, some (.d (.sc (.string s)))), (.slot 5, some (.d (.sc (.int .i64 (D.length : Int))))), (.slot 7, some (.d (.sc (.int .i64 (D.length + 1 + j : Int))))), (.slot 6, some (.ptr 6 0)), (.cell 6 0, some (.d (.sc (.int .i64 (w : Int))))), (.cell 6 1, some (.d (.sc (.int .u64 (hiOf ((hv16 (H.take j)))))))), (.cell 6 2, some (.d (.sc (.int .u64 (loOf ((hv16 (H.take j)))))))), (.box 6, some (.ptr 6 0)), (.slot 2, some (.ptr 2 0)), (.cell 2 0, some (.d (.sc (.int .i64 0)))), (.cell 2 1, some (.d (.sc (.int .u64 0)))), (.cell 2 2, some (.d (.sc (.int .u64 0)))), (.box 2, some (.ptr 2 0))]) (fun j : Nat => j ≤ H.length) (fun j : Nat => H.length - j) 0 (Nat.zero_le _) ⟨rfl, rfl, rfl, rfl, rfl, congrArg (fun z : Int => some (V.d (.sc (.int .u64 z)))) (by simp [hv16, hiOf]), congrArg (fun z : Int => some (V.d (.sc (.int .u64 z)))) (by simp [hv16, loOf]), rfl, rfl, rfl, rfl, rfl, rfl, trivial⟩ rfl ?_
      intro j hj
      have hvj : (hv16 (H.take j)) < 2 ^ 128 := Nat.lt_of_le_of_lt (hv_take H j) (by omega)
      refine hits_seq ?_
      refine hits_seq ?_
      by_cases b1 : j < H.length
      · obtain ⟨c, hc0⟩ : ∃ c, H[j]? = some c := ⟨_, List.getElem?_eq_getElem b1⟩
        have hat := at_H hL hc0
        have hc : c.toNat < 256 := c.toNat_lt
        obtain ⟨d, hde, hd16⟩ := dgI_nat (hH c (List.mem_of_getElem? hc0))
        have hdn := hH c (List.mem_of_getElem? hc0)
        have hnx : nextV (hv16 (H.take j)) d = hv16 (H.take (j + 1)) := by rw [take_snoc' hc0, hv_snoc, hde]; have := hv_take H (j + 1); rw [take_snoc' hc0, hv_snoc, hde] at this; simp only [Int.toNat_natCast] at this ⊢; exact Nat.mod_eq_of_lt (by omega)
        refine hits_region ?_
        refine sq (f_move rfl (lt rfl)) rfl rfl ?_
        refine sq (f_move rfl (lt rfl)) rfl rfl ?_
        refine sq (f_lenStr rfl un9 (lt rfl)) rfl rfl ?_
        refine sq (f_bin rfl rfl (bT (decide_eq_true (by omega))) (lt rfl)) rfl rfl ?_
        refine sq (f_move rfl (lt rfl)) rfl rfl ?_
        refine sq_yes (f_move rfl (lt rfl)) rfl rfl rfl rfl (lt rfl) ?_
        refine sq_yes (f_move rfl (lt rfl)) rfl rfl rfl rfl (lt rfl) ?_
        refine sq_yes (f_bin rfl rfl (iT (((IntWalk.i64_in _ (by omega)).trans (by omega) : _ = ((D.length + 34 : Nat) : Int)))) (lt rfl)) rfl rfl rfl rfl (lt rfl) ?_
        refine sq_yes (f_bin rfl rfl (bT (decide_eq_true (by omega))) (lt rfl)) rfl rfl rfl rfl (lt rfl) ?_
        refine sq (f_pick rfl rfl (lt rfl)) rfl rfl ?_
        refine hits_nil ?_
        refine to_next ?_
        refine hits_cond rfl (fun c1 => ?_) (fun c1 => ?_)
        case refine_2 => exact absurd c1 Bool.false_ne_true.symm
        case refine_1 =>
          refine hits_skip ?_
          refine to_next ?_
          refine hits_seq ?_
          refine hits_block ?_
          refine hits_seq ?_
          refine hits_region ?_
          refine sq (f_move rfl (lt rfl)) rfl rfl ?_
          refine sq (f_move rfl (lt rfl)) rfl rfl ?_
          refine sq (f_idxS rfl rfl un9 hat (lt rfl)) rfl rfl ?_
          refine sq (f_call en39 rfl (rdigit_c hc) (lt rfl)) rfl rfl ?_
          refine sq (f_assign rfl (lt rfl)) rfl rfl ?_
          refine hits_nil ?_
          refine to_next ?_
          refine hits_seq ?_
          refine hits_seq ?_
          refine hits_region ?_
          refine sq (f_move rfl (lt rfl)) rfl rfl ?_
          refine sq (f_bin rfl rfl (bT (decide_eq_false hdn)) (lt rfl)) rfl rfl ?_
          refine hits_nil ?_
          refine to_next ?_
          refine hits_cond rfl (fun c2 => ?_) (fun c2 => ?_)
          case refine_1 => exact absurd c2 Bool.false_ne_true
          case refine_2 =>
            refine hits_skip ?_
            refine to_next ?_
            refine hits_seq ?_
            rw [hde]
            refine hits_region ?_
            refine sq (f_fieldAddr rfl kf27_1 rfl (lt rfl)) rfl rfl ?_
            refine sq (f_load kd22 rfl rfl (lt rfl)) rfl rfl ?_
            refine sq (f_shlI rfl rfl (by decide) (sh4 (hi_lt hvj)) (lt rfl)) rfl rfl ?_
            refine sq (f_fieldAddr rfl kf27_2 rfl (lt rfl)) rfl rfl ?_
            refine sq (f_load kd22 rfl rfl (lt rfl)) rfl rfl ?_
            refine sq (f_shrI rfl rfl (by decide) (sh60 (lo_lt _)) (lt rfl)) rfl rfl ?_
            refine sq (f_bin rfl rfl (iT ((next_hi hvj hd16).trans (congrArg hiOf hnx))) (lt rfl)) rfl rfl ?_
            refine sq (f_fieldAddr rfl kf27_1 rfl (lt rfl)) rfl rfl ?_
            refine sq (f_store kd22 rfl rfl rfl rfl rfl) rfl rfl ?_
            refine hits_nil ?_
            refine to_next ?_
            refine hits_region ?_
            refine sq (f_fieldAddr rfl kf27_2 rfl (lt rfl)) rfl rfl ?_
            refine sq (f_load kd22 rfl rfl (lt rfl)) rfl rfl ?_
            refine sq (f_shlI rfl rfl (by decide) (sh4 (lo_lt _)) (lt rfl)) rfl rfl ?_
            refine sq (f_move rfl (lt rfl)) rfl rfl ?_
            refine sq (f_convI rfl us3 un22 (u64_in (by omega)) (lt rfl)) rfl rfl ?_
            refine sq (f_bin rfl rfl (iT ((next_lo hvj hd16).trans (congrArg loOf hnx))) (lt rfl)) rfl rfl ?_
            refine sq (f_fieldAddr rfl kf27_2 rfl (lt rfl)) rfl rfl ?_
            refine sq (f_store kd22 rfl rfl rfl rfl rfl) rfl rfl ?_
            refine hits_nil ?_
            refine in_next ?_
            refine to_next ?_
            refine hits_region ?_
            refine sq (f_move rfl (lt rfl)) rfl rfl ?_
            refine sq (f_bin rfl rfl (iT (((IntWalk.i64_in _ (by omega)).trans (by omega) : _ = ((D.length + 1 + (j + 1) : Nat) : Int)))) (lt rfl)) rfl rfl ?_
            refine sq (f_assign rfl (lt rfl)) rfl rfl ?_
            refine hits_nil ?_
            refine to_next ?_
            exact round_end (j + 1) (by omega) (by omega) ⟨rfl, rfl, rfl, rfl, rfl, rfl, rfl, rfl, rfl, rfl, rfl, rfl, rfl, trivial⟩ rfl
      · obtain rfl : j = H.length := by omega
        have hvk : hv16 (H.take H.length) = v := by rw [List.take_length, hv]
        refine hits_region ?_
        refine sq (f_move rfl (lt rfl)) rfl rfl ?_
        refine sq (f_move rfl (lt rfl)) rfl rfl ?_
        refine sq (f_lenStr rfl un9 (lt rfl)) rfl rfl ?_
        refine sq (f_bin rfl rfl (bT (decide_eq_false (by omega))) (lt rfl)) rfl rfl ?_
        refine sq (f_move rfl (lt rfl)) rfl rfl ?_
        refine sq_no rfl rfl rfl rfl rfl (lt rfl) (lt rfl) ?_
        refine sq_no rfl rfl rfl rfl rfl (lt rfl) (lt rfl) ?_
        refine sq_no rfl rfl rfl rfl rfl (lt rfl) (lt rfl) ?_
        refine sq_no rfl rfl rfl rfl rfl (lt rfl) (lt rfl) ?_
        refine sq (f_pick rfl rfl (lt rfl)) rfl rfl ?_
        refine hits_nil ?_
        refine to_next ?_
        refine hits_cond rfl (fun c1 => ?_) (fun c1 => ?_)
        case refine_1 => exact absurd c1 Bool.false_ne_true
        case refine_2 =>
          refine hits_exit ?_
          refine to_exit ?_
          refine to_exit ?_
          exact hits_out rest () trivial ⟨rfl, rfl, rfl, congrArg (fun z : Int => some (V.d (.sc (.int .u64 z)))) (congrArg hiOf hvk), congrArg (fun z : Int => some (V.d (.sc (.int .u64 z)))) (congrArg loOf hvk), rfl, rfl, rfl, rfl, rfl, rfl, trivial⟩ rfl
    · intro x hx
      refine in_hit rfl ?_
      refine to_next ?_
      refine hits_seq ?_
      refine hits_region ?_
      refine sq (f_load kd27 rfl rfl (lt rfl)) rfl rfl ?_
      refine sq (f_call en18 rfl (rtext_c h0 h1 h2) (lt rfl)) rfl rfl ?_
      refine sq (f_move rfl (lt rfl)) rfl rfl ?_
      refine sq (f_extract rfl rfl (lt rfl)) rfl rfl ?_
      refine sq (f_extract rfl rfl (lt rfl)) rfl rfl ?_
      refine sq (f_assign rfl (lt rfl)) rfl rfl ?_
      refine sq (f_assign rfl (lt rfl)) rfl rfl ?_
      refine hits_nil ?_
      refine to_next ?_
      refine hits_seq ?_
      refine hits_seq ?_
      refine hits_region ?_
      refine sq (f_move rfl (lt rfl)) rfl rfl ?_
      refine sq (f_bin rfl rfl (bT (b' := false) rfl) (lt rfl)) rfl rfl ?_
      refine sq (f_move rfl (lt rfl)) rfl rfl ?_
      refine sq_yes (f_move rfl (lt rfl)) rfl rfl rfl rfl (lt rfl) ?_
      refine sq_yes (f_move rfl (lt rfl)) rfl rfl rfl rfl (lt rfl) ?_
      refine sq_yes (f_bin rfl rfl (bT (str_ne0 ht)) (lt rfl)) rfl rfl rfl rfl (lt rfl) ?_
      refine sq (f_pick rfl rfl (lt rfl)) rfl rfl ?_
      refine hits_nil ?_
      refine to_next ?_
      refine hits_cond rfl (fun c3 => ?_) (fun c3 => ?_)
      case refine_1 => exact absurd c3 Bool.false_ne_true
      case refine_2 =>
        refine hits_skip ?_
        refine to_next ?_
        refine hits_seq ?_
        refine hits_region ?_
        refine sq (f_load kd27 rfl rfl (lt rfl)) rfl rfl ?_
        refine sq (f_store kd27 rfl rfl rfl rfl rfl) rfl rfl ?_
        refine sq (f_assign rfl (lt rfl)) rfl rfl ?_
        refine hits_nil ?_
        refine to_next ?_
        refine hits_ret ?_
        exact hits_done (.inl rfl) rfl rfl rfl

end Go.Proofs.YthhlnghpbjmfpaaDoor.AbBits


namespace Go.Proofs.YthhlnghpbjmfpaaDoor.AbBits
open Go Go.RowKit Go.Ab Go.Proofs Go.Proofs.YthhlnghpbjmfpaaDoor Go.Proofs.YthhlnghpbjmfpaaDoor.PTryd Go.Proofs.YthhlnghpbjmfpaaDoor.PTrydFns Go.Proofs.YthhlnghpbjmfpaaDoor.BitsMath Go.Proofs.YthhlnghpbjmfpaaDoor.Press
set_option linter.unusedVariables false
set_option linter.unusedSimpArgs false
theorem hx_dig : ∀ d : Nat, d < 16 → dig (Hex.hx d).toNat = some d := by decide +kernel
theorem hx_dgI : ∀ d : Nat, d < 16 → dgI (Hex.hx d).toNat = (d : Int) := by decide +kernel
/-- Hexadecimal digits, nothing else. -/
def IsHex (l : List UInt8) : Prop := ∀ c ∈ l, ∃ d : Nat, d < 16 ∧ c = Hex.hx d
theorem hexL_is (u : Nat) : IsHex (Hex.hexL u) := by
  induction u using Nat.strongRecOn with
  | _ u ih =>
    rw [Hex.hexL]
    split
    · rename_i h; intro c hc; simp at hc; exact ⟨u, h, hc⟩
    · intro c hc
      rcases List.mem_append.mp hc with h | h
      · exact ih (u / 16) (by omega) c h
      · simp at h; exact ⟨u % 16, by omega, h⟩
theorem hv_hexL (u : Nat) : hv16 (Hex.hexL u) = u := by
  induction u using Nat.strongRecOn with
  | _ u ih =>
    rw [Hex.hexL]
    split
    · rename_i h; show 0 * 16 + (dgI (Hex.hx u).toNat).toNat = u; rw [hx_dgI u h]; simp
    · rw [hv_snoc, ih (u / 16) (by omega), hx_dgI _ (Nat.mod_lt _ (by decide))]; simp only [Int.toNat_natCast]; omega
theorem fold_app (l : List UInt8) : ∀ a, l.foldl (fun a c => a * 16 + (dgI c.toNat).toNat) a = a * 16 ^ l.length + hv16 l := by
  induction l with
  | nil => intro a; simp [hv16]
  | cons c l ih =>
    intro a
    have e : hv16 (c :: l) = l.foldl (fun a c => a * 16 + (dgI c.toNat).toNat) (0 * 16 + (dgI c.toNat).toNat) := rfl
    rw [List.foldl_cons, ih, e, ih, List.length_cons, Nat.pow_succ]
    rw [Nat.add_mul, Nat.add_mul, Nat.mul_assoc, Nat.mul_comm 16 (16 ^ l.length)]; simp; omega
theorem hv_app (a b : List UInt8) : hv16 (a ++ b) = hv16 a * 16 ^ b.length + hv16 b := by
  rw [← fold_app]; unfold hv16; rw [List.foldl_append]
theorem hv_lt (l : List UInt8) (h : IsHex l) : hv16 l < 16 ^ l.length := by
  induction l with
  | nil => simp [hv16]
  | cons c l ih =>
    obtain ⟨d, hd, rfl⟩ := h c (by simp)
    have e : hv16 (Hex.hx d :: l) = (0 * 16 + (dgI (Hex.hx d).toNat).toNat) * 16 ^ l.length + hv16 l := (fold_app l _)
    rw [e, hx_dgI d hd, List.length_cons, Nat.pow_succ]
    have := ih fun c hc => h c (by simp [hc])
    have h2 : d * 16 ^ l.length ≤ 15 * 16 ^ l.length := Nat.mul_le_mul_right _ (by omega)
    simp only [Int.toNat_natCast, Nat.zero_mul, Nat.zero_add]
    omega
theorem pu_hex : ∀ (l : List UInt8) (n : Nat), IsHex l → l.length ≤ 16 → n < 16 ^ (16 - l.length) → pu16 n l = (l.foldl (fun a c => a * 16 + (dgI c.toNat).toNat) n, 0)
  | [], n, _, _, _ => rfl
  | c :: l, n, h, hl, hn => by
    obtain ⟨d, hd, rfl⟩ := h c (by simp)
    have hl' : l.length + 1 ≤ 16 := hl
    have h1 : n < 16 ^ 15 := Nat.lt_of_lt_of_le hn (Nat.pow_le_pow_right (by decide) (by simp))
    have h2 : n * 16 + d < 16 ^ (16 - l.length) := by
      rw [show 16 - l.length = 16 - (l.length + 1) + 1 from by omega, Nat.pow_succ]
      have : n < 16 ^ (16 - (l.length + 1)) := by simpa using hn
      omega
    rw [pu_go (hx_dig d hd) (by omega) (by have : (16 : Nat) ^ 15 = 1152921504606846976 := rfl; omega), pu_hex l _ (fun c hc => h c (by simp [hc])) (by omega) h2, List.foldl_cons, hx_dgI d hd]
    simp
theorem puOf_hex (b : ByteArray) (h : IsHex b.data.toList) (hl : b.size ≤ 16) : (puOf b).1 = hv16 b.data.toList := by
  unfold puOf
  split
  · rename_i h0
    have : b.data.toList = [] := List.length_eq_zero_iff.mp (by simpa using h0)
    rw [this]; rfl
  · rw [pu_hex _ 0 h (by simpa using hl) (Nat.two_pow_pos 0 |> fun _ => Nat.pow_pos (by decide))]; rfl
theorem idx_at (D H : List UInt8) (h : ∀ c ∈ D, c ≠ 119) : Lib.indexByte (D ++ 119 :: H) 119 = (D.length : Int) := by
  induction D with
  | nil => rfl
  | cons c D ih =>
    have hc := h c (by simp)
    have := ih fun c hc => h c (by simp [hc])
    simp only [List.cons_append, Lib.indexByte]
    rw [if_neg (by simpa using hc), this, if_neg (by simp <;> omega)]
    rfl
theorem ext_list (s : ByteArray) (i j : Nat) : (s.extract i j).data.toList = (s.data.toList.drop i).take (j - i) := by
  rw [ByteArray.data_extract, Array.toList_extract, List.extract_eq_take_drop]
theorem small_ok : ∀ w : Nat, w < 129 → ((Lib.decDigits w).all (fun c => 48 ≤ c.toNat && c.toNat ≤ 57) && decide ((Lib.decDigits w).length ≤ 3) && decide (wv (Lib.decDigits w) = w) && (match Lib.atoiAll (Lib.decDigits w) with | .ok v => v == (w : Int) | _ => false)) = true := by decide +kernel
theorem ba_ext {a b : ByteArray} (h : a.data.toList = b.data.toList) : a = b := by
  cases a; cases b; congr 1; exact Array.toList_inj.mp h
theorem rtext_list (w v : Nat) : (rtextB w v).data.toList = Lib.decDigits w ++ 119 :: Hex.hexL v := by
  unfold rtextB decB hexB; simp
section
variable {w v : Nat} (h0 : 1 ≤ w) (h : w ≤ 128) (hv : v < 2 ^ 128)
theorem yes_of (h : w ≤ 128) : (∀ c ∈ Lib.decDigits w, 48 ≤ c.toNat ∧ c.toNat ≤ 57) ∧ (Lib.decDigits w).length ≤ 3 ∧ wv (Lib.decDigits w) = w ∧ Lib.atoiAll (Lib.decDigits w) = .ok (w : Int) := by
  have e := small_ok w (by omega)
  simp only [Bool.and_eq_true, List.all_eq_true, decide_eq_true_eq] at e
  obtain ⟨⟨⟨e1, e2⟩, e3⟩, e4⟩ := e
  refine ⟨e1, e2, e3, ?_⟩
  split at e4
  · rename_i q hq; rw [hq, eq_of_beq e4]
  · cases e4
theorem cut_idx (h : w ≤ 128) : Lib.indexByte (rtextB w v).data.toList 119 = ((Lib.decDigits w).length : Int) := by
  rw [rtext_list]
  exact idx_at _ _ fun c hc e => by have := (yes_of h).1 c hc; rw [e] at this; exact absurd this.2 (by decide)
theorem cutA_is (h : w ≤ 128) : cutA (rtextB w v) = decB w := by
  unfold cutA
  rw [cut_idx h, if_pos (by omega)]
  apply ba_ext
  rw [ext_list, rtext_list]
  simp [decB]
theorem rtext_size : (rtextB w v).size = (Lib.decDigits w).length + 1 + (Hex.hexL v).length := by
  have := congrArg List.length (rtext_list w v)
  rw [Array.length_toList, List.length_append, List.length_cons] at this
  exact this.trans (by omega)
theorem cutB_is (h : w ≤ 128) : cutB (rtextB w v) = hexB v := by
  unfold cutB
  rw [cut_idx h, if_pos (by omega)]
  apply ba_ext
  rw [ext_list, rtext_list, rtext_size]
  simp [hexB]
theorem pW_is (h : w ≤ 128) : pW (rtextB w v) = w := by
  unfold pW atoiN
  rw [cutA_is h]
  show (match Lib.atoiAll (decB w).data.toList with | .ok v => v | .syntax => 0 | .range => _) = _
  rw [show (decB w).data.toList = Lib.decDigits w from by simp [decB], (yes_of h).2.2.2]
theorem pV_is (h : w ≤ 128) (hv : v < 2 ^ 128) : pV (rtextB w v) = v := by
  have hlen := hexL_le 31 v (by simpa using hv)
  have hhex := hexL_is v
  have hval := hv_hexL v
  have hsz : (hexB v).size = (Hex.hexL v).length := by simp [hexB, ByteArray.size]
  have hl : (hexB v).data.toList = Hex.hexL v := by simp [hexB]
  unfold pV pH pL
  rw [cutB_is h, puOf_hex, puOf_hex, ext_list, ext_list, hl, hsz]
  · generalize hL : Hex.hexL v = L at *
    rw [List.drop_zero, Nat.sub_zero, List.take_of_length_le (l := L.drop (L.length - 16)) (by rw [List.length_drop]; exact Nat.le_refl _)]
    have e := hv_app (L.take (L.length - 16)) (L.drop (L.length - 16))
    rw [List.take_append_drop, hval] at e
    by_cases h16 : L.length ≤ 16
    · rw [show L.length - 16 = 0 from by omega, List.take_zero, List.drop_zero, show hv16 ([] : List UInt8) = 0 from rfl, Nat.zero_mul, Nat.zero_add]; exact hval
    · rw [List.length_drop, show L.length - (L.length - 16) = 16 from by omega] at e
      rw [show (18446744073709551616 : Nat) = 16 ^ 16 from rfl]; exact e.symm
  · rw [ext_list, hl]
    intro c hc
    exact hhex c (List.mem_of_mem_drop (List.mem_of_mem_take hc))
  · rw [ByteArray.size_extract]; omega
  · rw [ext_list, hl]
    intro c hc
    exact hhex c (List.mem_of_mem_drop (List.mem_of_mem_take hc))
  · rw [ByteArray.size_extract]; omega
end
theorem app_list (a b : ByteArray) : (a ++ b).data.toList = a.data.toList ++ b.data.toList := by simp
/-- Exactly so many digits. -/
def pad : Nat → Nat → List UInt8
  | 0, _ => []
  | k + 1, r => pad k (r / 16) ++ [Hex.hx (r % 16)]
theorem hexL_pad (u : Nat) (hu : 0 < u) : ∀ (k r : Nat), r < 16 ^ k → Hex.hexL (u * 16 ^ k + r) = Hex.hexL u ++ pad k r
  | 0, r, h => by
    obtain rfl : r = 0 := (by simpa using h)
    simp [pad]
  | k + 1, r, h => by
    have hp := Nat.pow_pos (n := k) (show 0 < 16 by decide)
    have e1 : (u * 16 ^ (k + 1) + r) / 16 = u * 16 ^ k + r / 16 := by rw [Nat.pow_succ, ← Nat.mul_assoc]; omega
    have e2 : (u * 16 ^ (k + 1) + r) % 16 = r % 16 := by rw [Nat.pow_succ, ← Nat.mul_assoc]; omega
    have h1 : r / 16 < 16 ^ k := Nat.div_lt_of_lt_mul (by rw [Nat.mul_comm, ← Nat.pow_succ]; exact h)
    rw [Hex.hexL, if_neg (by rw [Nat.pow_succ, ← Nat.mul_assoc]; have : 1 * 1 ≤ u * 16 ^ k := Nat.mul_le_mul hu hp; omega), e1, e2, hexL_pad u hu k (r / 16) h1, pad, List.append_assoc]
theorem pad_zero : ∀ k, pad k 0 = List.replicate k 48
  | 0 => rfl
  | k + 1 => by rw [pad, Nat.zero_div, pad_zero k, show Hex.hx (0 % 16) = 48 from by decide, List.replicate_succ']
theorem pad_hexL : ∀ (k r : Nat), (Hex.hexL r).length ≤ k → pad k r = List.replicate (k - (Hex.hexL r).length) 48 ++ Hex.hexL r
  | 0, r, h => by rw [Hex.hexL] at h; split at h <;> simp at h
  | k + 1, r, h => by
    by_cases hr : r < 16
    · have e : Hex.hexL r = [Hex.hx r] := by rw [Hex.hexL, if_pos hr]
      rw [pad, Nat.div_eq_of_lt hr, pad_zero, Nat.mod_eq_of_lt hr, e]; simp
    · have e : Hex.hexL r = Hex.hexL (r / 16) ++ [Hex.hx (r % 16)] := by rw [Hex.hexL, if_neg hr]
      rw [e, List.length_append] at h
      rw [pad, pad_hexL k (r / 16) (by simpa using h), e, List.length_append, List.append_assoc]
      simp
theorem digits_is {v : Nat} (hv : v < 2 ^ 128) : digitsB v = hexB v := by
  unfold digitsB
  by_cases h : 0 < v / 2 ^ 64
  · rw [if_pos h]
    apply ba_ext
    have hs : (hexB (v % 2 ^ 64)).size = (Hex.hexL (v % 2 ^ 64)).length := by simp [hexB, ByteArray.size]
    have hl := hexL_le 15 (v % 2 ^ 64) (by have := Nat.mod_lt v (show 0 < 2 ^ 64 by decide); simpa using this)
    have e := hexL_pad (v / 2 ^ 64) h 16 (v % 2 ^ 64) (by have := Nat.mod_lt v (show 0 < 2 ^ 64 by decide); simpa using this)
    rw [show v / 2 ^ 64 * 16 ^ 16 + v % 2 ^ 64 = v from by rw [show (16 : Nat) ^ 16 = 2 ^ 64 from rfl]; omega, pad_hexL 16 _ hl] at e
    have hz : (zerosB (16 - (hexB (v % 2 ^ 64)).size)).data.toList = List.replicate (16 - (Hex.hexL (v % 2 ^ 64)).length) 48 := by
      rw [hs]
      generalize 16 - (Hex.hexL (v % 2 ^ 64)).length = c
      show (⟨(Lib.repeatL [48] c).toArray⟩ : ByteArray).data.toList = _
      simp only
      induction c with
      | zero => rfl
      | succ c ih => rw [Lib.repeatL, ih, List.replicate_succ]; rfl
    show (hexB (v / 2 ^ 64) ++ zerosB (16 - (hexB (v % 2 ^ 64)).size) ++ hexB (v % 2 ^ 64)).data.toList = (hexB v).data.toList
    rw [app_list, app_list, hz]
    unfold hexB
    rw [e]; simp
  · rw [if_neg h, Nat.mod_eq_of_lt (by omega)]
theorem rtext_eq {w v : Nat} (hv : v < 2 ^ 128) : textB w v = rtextB w v := by
  unfold textB rtextB
  rw [itoaB_dec, digits_is hv]
/-- Both readers of a number's text: what they say of any text. -/
theorem read_yes {w v : Nat} (h0 : 1 ≤ w) (h : w ≤ 128) (hv : v < 2 ^ w) : CallsP Tryd.prog Errs 19 [.sc (.string (rtextB w v))] (.tup [bitD w v, .sc (.int .i64 0)]) ∧ CallsP Tryd.prog Errs 20 [.sc (.string (rtextB w v))] (.tup [bitD w v, .sc (.int .i64 0)]) := by
  have hv' := lt128 h hv
  have hy := yes_of h
  have hlen := hexL_le 31 v (by simpa using hv')
  have hsz := rtext_size (w := w) (v := v)
  constructor
  · have e := parse_yes (rtextB w v) (by omega) ⟨w, pW_is h, h0, h, by rw [pV_is h hv']; exact hv, by rw [pV_is h hv', rtext_eq hv']⟩
    rw [← pV_hi, ← pV_lo, pV_is h hv', pW_is h] at e
    exact e
  · exact rparse_yes (rtextB w v) (rtext_list w v) hy.1 hy.2.1 hy.2.2.1 (fun c hc => by obtain ⟨d, hd, rfl⟩ := hexL_is v c hc; rw [hx_dgI d hd]; omega) (by omega) (hv_hexL v) h0 h hv rfl
theorem read_no {s : ByteArray} (hs : s.size ≤ 281474976710656) (h : ∀ w v, 1 ≤ w → w ≤ 128 → v < 2 ^ w → rtextB w v ≠ s) : CallsP Tryd.prog Errs 19 [.sc (.string s)] (.tup [.agg [.sc (.int .i64 0), .sc (.int .u64 0), .sc (.int .u64 0)], .sc (.int .i64 8)]) ∧ CallsP Tryd.prog Errs 20 [.sc (.string s)] (.tup [.agg [.sc (.int .i64 0), .sc (.int .u64 0), .sc (.int .u64 0)], .sc (.int .i64 8)]) :=
  ⟨parse_no s hs fun ⟨w, h1, h2, h3, h4, h5⟩ => h w (pV s) h2 h3 h4 (by rw [← rtext_eq (pV_lt s)]; exact h5), rparse_no s hs h⟩

end Go.Proofs.YthhlnghpbjmfpaaDoor.AbBits

