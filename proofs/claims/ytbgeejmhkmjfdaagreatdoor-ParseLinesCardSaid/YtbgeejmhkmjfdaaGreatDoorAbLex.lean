/- lex's scanner over data. -/
import Derived.Test.YtbgeejmhkmjfdaaGreatDoorAbNum
import Derived.Test.YtbgeejmhkmjfdaaGreatDoorShelfL
import Derived.Laws.RangeString
namespace Go.Proofs.YtbgeejmhkmjfdaaGreatDoor.Ln
open Go Go.RowKit Go.Ab Go.Proofs 
set_option linter.unusedVariables false
set_option linter.unusedSimpArgs false
theorem un9 : Tryz.prog.underlying 9 = some (.string) := by kernel_rfl
theorem kf52_0 : kf Tryz.prog 52 0 = some 0 := by kernel_rfl
theorem kd9 : kd Tryz.prog 9 = some (false, 1) := by kernel_rfl
theorem en23 : enters Tryz.prog 23 = true := by kernel_rfl
theorem en24 : enters Tryz.prog 24 = true := by kernel_rfl
theorem en20 : enters Tryz.prog 20 = true := by kernel_rfl
theorem en22 : enters Tryz.prog 22 = true := by kernel_rfl
theorem en21 : enters Tryz.prog 21 = true := by kernel_rfl
theorem en19 : enters Tryz.prog 19 = true := by kernel_rfl
theorem kf52_1 : kf Tryz.prog 52 1 = some 1 := by kernel_rfl
def dgt (c : UInt8) : Bool := decide (48 ≤ c.toNat ∧ c.toNat ≤ 57)
def ltr (c : UInt8) : Bool := decide ((97 ≤ c.toNat ||| 32 ∧ c.toNat ||| 32 ≤ 122) ∨ c.toNat = 95)
def blank (c : UInt8) : Bool := decide (c.toNat = 32 ∨ c.toNat = 9 ∨ c.toNat = 10)
def noline (c : UInt8) : Bool := decide (c.toNat ≠ 10)
def aln (c : UInt8) : Bool := dgt c || ltr c
theorem low_is {c : Nat} (h : c < 256) : Go.bits .or .u8 (c : Int) 32 = ((c ||| 32 : Nat) : Int) := (bits_nat .u8 8 (by decide) (fun n h0 h1 => by simp [IntKind.wrap, IntKind.bits, IntKind.signed]; omega) c 32 h (by decide)).2
def run (p : UInt8 → Bool) (s : ByteArray) : Nat := (s.data.toList.takeWhile p).length
theorem take_all {p : UInt8 → Bool} : ∀ {l : List UInt8} {i : Nat}, (∀ c ∈ l.take i, p c = true) → i ≤ l.length → (i = l.length ∨ ∃ c, l[i]? = some c ∧ p c = false) → (l.takeWhile p).length = i
  | [], i, _, h, _ => by simp at h; subst h; rfl
  | c :: l, 0, _, _, h => by
    rcases h with h | ⟨c', h1, h2⟩
    · simp at h
    · simp at h1; subst h1; simp [List.takeWhile, h2]
  | c :: l, i + 1, h, hl, hs => by
    have hc := h c (by simp)
    rw [List.takeWhile_cons, hc]
    simp only [if_true, List.length_cons]
    rw [take_all (i := i) (fun c' hc' => h c' (by simp [hc'])) (by simpa using hl) (by simpa using hs)]
theorem run_stop {p : UInt8 → Bool} {s : ByteArray} {i : Nat} (hi : i ≤ s.size) (h : ∀ c ∈ s.data.toList.take i, p c = true) (hs : i = s.size ∨ ∃ c, s.data.toList[i]? = some c ∧ p c = false) : run p s = i := take_all h (by simpa using hi) (by simpa using hs)
theorem run_more {p : UInt8 → Bool} {s : ByteArray} {i : Nat} {c : UInt8} (hat : s.data.toList[i]? = some c) (hc : p c = true) (h : ∀ c ∈ s.data.toList.take i, p c = true) : ∀ c ∈ s.data.toList.take (i + 1), p c = true := by
  intro c' hc'
  rw [List.take_add_one, hat] at hc'
  rcases List.mem_append.mp hc' with q | q
  · exact h c' q
  · simp at q; subst q; exact hc
theorem take_run (p : UInt8 → Bool) : ∀ l : List UInt8, l.take (l.takeWhile p).length = l.takeWhile p ∧ l.drop (l.takeWhile p).length = l.dropWhile p
  | [] => ⟨rfl, rfl⟩
  | c :: l => by
    obtain ⟨h1, h2⟩ := take_run p l
    rw [List.takeWhile_cons, List.dropWhile_cons]
    split
    · rw [List.length_cons, List.take_succ_cons, List.drop_succ_cons, h1, h2]; exact ⟨rfl, rfl⟩
    · exact ⟨rfl, rfl⟩
theorem ext_run (p : UInt8 → Bool) (l : List UInt8) : (B l).extract 0 (run p (B l)) = B (l.takeWhile p) ∧ (B l).extract (run p (B l)) (B l).size = B (l.dropWhile p) := by
  have h : run p (B l) = (l.takeWhile p).length := by unfold run; rw [B_toList]
  obtain ⟨h1, h2⟩ := take_run p l
  rw [h, B_ext, B_ext, B_size, List.drop_zero, Nat.sub_zero, h1, h2]
  refine ⟨rfl, ?_⟩
  congr 1
  apply List.take_of_length_le
  rw [← h2, List.length_drop]; omega
theorem blank_lt {c : UInt8} (h : blank c = true) : c.toNat < 128 := by
  have := of_decide_eq_true h
  omega
theorem blank_dec {l : List UInt8} (h : ∀ c ∈ l, blank c = true) {i : Nat} {c : UInt8} (hc : l[i]? = some c) : Utf8.decode (B l) i = (c.toNat, 1) := by
  obtain ⟨h1, h2⟩ := List.getElem?_eq_some_iff.mp hc
  have hlt : i < (B l).size := by rw [B_size]; exact h1
  have e : (B l)[i]'hlt = c := by
    show (B l).data[i]'(by simpa using hlt) = c
    simp only [B]
    simpa using h2
  have := decode_ascii (B l) i hlt (by rw [e]; exact blank_lt (h c (List.mem_of_getElem? hc)))
  rw [e] at this; exact this
def skip : Bool → List UInt8 → Nat → List UInt8 × Nat
  | _, [], n => ([], n)
  | true, c :: r, n => if c = 10 then skip false r (n + 1) else skip true r n
  | false, c :: r, n => if c = 10 then skip false r (n + 1) else if blank c = true then skip false r n else if c = 47 ∧ r.head? = some 47 then skip true r n else (c :: r, n)
theorem skip_t (c : UInt8) (r : List UInt8) (n : Nat) : skip true (c :: r) n = if c = 10 then skip false r (n + 1) else skip true r n := by rw [skip]
theorem skip_f (c : UInt8) (r : List UInt8) (n : Nat) : skip false (c :: r) n = if c = 10 then skip false r (n + 1) else if blank c = true then skip false r n else if c = 47 ∧ r.head? = some 47 then skip true r n else (c :: r, n) := by rw [skip]
theorem noline_iff (c : UInt8) : noline c = true ↔ c ≠ 10 := by
  unfold noline
  rw [decide_eq_true_iff]
  constructor
  · intro h e; subst e; exact h rfl
  · intro h e; exact h (UInt8.toNat_inj.mp e)
theorem skip_blanks : ∀ (s : List UInt8) (n : Nat), skip false s n = skip false (s.dropWhile blank) (n + (s.takeWhile blank).count 10)
  | [], n => by simp [skip]
  | c :: r, n => by
    by_cases h : blank c = true
    · rw [List.dropWhile_cons, if_pos h, List.takeWhile_cons, if_pos h]
      rw [skip_f]
      by_cases h1 : c = 10
      · subst h1
        rw [if_pos rfl, skip_blanks r, List.count_cons_self]
        rw [show n + 1 + (r.takeWhile blank).count 10 = n + ((r.takeWhile blank).count 10 + 1) from by omega]
      · rw [if_neg h1, if_pos h, skip_blanks r, List.count_cons_of_ne h1]
    · rw [List.dropWhile_cons, if_neg h, List.takeWhile_cons, if_neg h]; simp
theorem skip_line : ∀ (s : List UInt8) (n : Nat), skip true s n = skip false (s.dropWhile noline) n
  | [], n => by simp [skip]
  | c :: r, n => by
    by_cases h : c = 10
    · subst h
      rw [List.dropWhile_cons, if_neg (by decide)]
      rw [skip_t, skip_f, if_pos rfl, if_pos rfl]
    · rw [List.dropWhile_cons, if_pos ((noline_iff c).mpr h), ← skip_line r n]
      rw [skip_t, if_neg h]
theorem skip_com (r : List UInt8) (n : Nat) : skip false (47 :: 47 :: r) n = skip false ((47 :: 47 :: r).dropWhile noline) n := by
  rw [← skip_line]
  rw [skip_f, if_neg (by decide), if_neg (by decide), if_pos ⟨rfl, rfl⟩, skip_t 47 (47 :: r), if_neg (by decide)]
def Stops : List UInt8 → Prop
  | [] => True
  | c :: r => blank c = false ∧ ¬ (c = 47 ∧ r.head? = some 47)
theorem skip_stop : ∀ {s : List UInt8} (n : Nat), Stops s → skip false s n = (s, n)
  | [], n, _ => rfl
  | c :: r, n, ⟨h1, h2⟩ => by
    have h3 : c ≠ 10 := fun e => by subst e; exact absurd h1 (by decide)
    rw [skip_f, if_neg h3, if_neg (by rw [h1]; decide), if_neg h2]
theorem skip_stops : ∀ (b : Bool) (s : List UInt8) (n : Nat), Stops (skip b s n).1
  | true, [], n => trivial
  | false, [], n => trivial
  | true, c :: r, n => by
    rw [skip_t]
    split
    · exact skip_stops _ _ _
    · exact skip_stops _ _ _
  | false, c :: r, n => by
    rw [skip_f]
    split
    · exact skip_stops _ _ _
    · split
      · exact skip_stops _ _ _
      · split
        · exact skip_stops _ _ _
        · rename_i h2 h3; exact ⟨by simpa using h2, h3⟩
theorem skip_le : ∀ (b : Bool) (s : List UInt8) (n : Nat), (skip b s n).1.length ≤ s.length
  | true, [], n => Nat.le_refl _
  | false, [], n => Nat.le_refl _
  | true, c :: r, n => by
    rw [skip_t]
    split
    · exact Nat.le_succ_of_le (skip_le _ _ _)
    · exact Nat.le_succ_of_le (skip_le _ _ _)
  | false, c :: r, n => by
    rw [skip_f]
    split
    · exact Nat.le_succ_of_le (skip_le _ _ _)
    · split
      · exact Nat.le_succ_of_le (skip_le _ _ _)
      · split
        · exact Nat.le_succ_of_le (skip_le _ _ _)
        · exact Nat.le_refl _
theorem skip_count : ∀ (b : Bool) (s : List UInt8) (n : Nat), (skip b s n).2 + (skip b s n).1.count 10 = n + s.count 10
  | true, [], n => by simp [skip]
  | false, [], n => by simp [skip]
  | true, c :: r, n => by
    rw [skip_t]
    split
    · rename_i h; subst h; rw [skip_count, List.count_cons_self]; omega
    · rename_i h; rw [skip_count, List.count_cons_of_ne h]
  | false, c :: r, n => by
    rw [skip_f]
    split
    · rename_i h; subst h; rw [skip_count, List.count_cons_self]; omega
    · rename_i h
      split
      · rw [skip_count, List.count_cons_of_ne h]
      · split
        · rw [skip_count, List.count_cons_of_ne h]
        · rfl
theorem skip_len : ∀ (b : Bool) (s : List UInt8) (n : Nat), s.count 10 - (skip b s n).1.count 10 ≤ s.length - (skip b s n).1.length
  | true, [], n => by simp [skip]
  | false, [], n => by simp [skip]
  | true, c :: r, n => by
    rw [skip_t]
    have hc : (c :: r).count 10 ≤ r.count 10 + 1 := by rw [List.count_cons]; split <;> omega
    have h2 := skip_le false r (n + 1)
    have h3 := skip_le true r n
    split
    · have := skip_len false r (n + 1); simp only [List.length_cons]; omega
    · have := skip_len true r n; simp only [List.length_cons]; omega
  | false, c :: r, n => by
    rw [skip_f]
    have hc : (c :: r).count 10 ≤ r.count 10 + 1 := by rw [List.count_cons]; split <;> omega
    have h2 := skip_le false r (n + 1)
    have h3 := skip_le true r n
    have h4 := skip_le false r n
    split
    · have := skip_len false r (n + 1); simp only [List.length_cons]; omega
    · split
      · have := skip_len false r n; simp only [List.length_cons]; omega
      · split
        · have := skip_len true r n; simp only [List.length_cons]; omega
        · simp
theorem skip_add : ∀ (b : Bool) (s : List UInt8) (n k : Nat), skip b s (n + k) = ((skip b s n).1, (skip b s n).2 + k)
  | true, [], n, k => rfl
  | false, [], n, k => rfl
  | true, c :: r, n, k => by
    rw [skip_t, skip_t]
    split
    · rw [show n + k + 1 = n + 1 + k from by omega, skip_add]
    · rw [skip_add]
  | false, c :: r, n, k => by
    rw [skip_f, skip_f]
    split
    · rw [show n + k + 1 = n + 1 + k from by omega, skip_add]
    · split
      · rw [skip_add]
      · split
        · rw [skip_add]
        · rfl
theorem skip_mono (b : Bool) (s : List UInt8) (n : Nat) : n ≤ (skip b s n).2 := by
  have h := skip_add b s 0 n
  rw [Nat.zero_add] at h
  rw [h]; simp
theorem all_take (p : UInt8 → Bool) : ∀ l : List UInt8, ∀ c ∈ l.takeWhile p, p c = true
  | [], c, h => by simp at h
  | d :: l, c, h => by
    rw [List.takeWhile_cons] at h
    split at h
    · rename_i hd
      rcases List.mem_cons.mp h with rfl | h
      · exact hd
      · exact all_take p l c h
    · simp at h
theorem len_split (p : UInt8 → Bool) (l : List UInt8) : (l.takeWhile p).length + (l.dropWhile p).length = l.length := by
  rw [← List.length_append, List.takeWhile_append_dropWhile]
theorem count_le (l : List UInt8) : l.count 10 ≤ l.length := List.count_le_length
theorem count_take_le (l : List UInt8) (i : Nat) : (l.take i).count 10 ≤ l.length := Nat.le_trans List.count_le_length (by rw [List.length_take]; omega)
theorem count_take {l : List UInt8} {i : Nat} {c : UInt8} (h : l[i]? = some c) : (l.take i).count 10 + (if c.toNat = 10 then 1 else 0) = (l.take (i + 1)).count 10 := by
  rw [List.take_add_one, h, List.count_append]
  simp only [Option.toList_some, List.count_singleton]
  congr 1
  by_cases hc : c.toNat = 10
  · have : c = 10 := UInt8.toNat_inj.mp hc
    subst this; rfl
  · have : c ≠ 10 := fun e => hc (by subst e; rfl)
    rw [if_neg hc]; simp [this]
theorem drop_head {p : UInt8 → Bool} : ∀ {l : List UInt8} {c : UInt8} {r : List UInt8}, l.dropWhile p = c :: r → p c = false
  | [], c, r, h => by simp at h
  | d :: l, c, r, h => by
    rw [List.dropWhile_cons] at h
    split at h
    · exact drop_head h
    · rename_i hd; cases h; simpa using hd
theorem skip_fin {t t' : List UInt8} {m n' : Nat} (hJ : skip false t m = (t', n')) (hp : List.isPrefixOf [47, 47] (t.dropWhile blank) = false) : t.dropWhile blank = t' ∧ m + (t.takeWhile blank).count 10 = n' := by
  rw [skip_blanks, skip_stop] at hJ
  · cases hJ; exact ⟨rfl, rfl⟩
  · cases h : t.dropWhile blank with
    | nil => trivial
    | cons c r =>
      refine ⟨drop_head h, fun ⟨h1, h2⟩ => ?_⟩
      rw [h] at hp
      cases r with
      | nil => simp at h2
      | cons d r =>
        simp at h2
        subst h1 h2
        simp [List.isPrefixOf] at hp
theorem skip_go {t t' : List UInt8} {m n' : Nat} (hJ : skip false t m = (t', n')) (hp : List.isPrefixOf [47, 47] (t.dropWhile blank) = true) :
    skip false ((t.dropWhile blank).dropWhile noline) (m + (t.takeWhile blank).count 10) = (t', n') ∧ ((t.dropWhile blank).dropWhile noline).length < (t.dropWhile blank).length ∧ True := by
  obtain ⟨r, hr⟩ := List.isPrefixOf_iff_prefix.mp hp
  rw [skip_blanks] at hJ
  rw [← hr] at hJ ⊢
  simp only [List.cons_append, List.nil_append] at hJ ⊢
  refine ⟨?_, ?_, trivial⟩
  · rw [← skip_com]; exact hJ
  · show ((47 :: 47 :: r).dropWhile noline).length < _
    rw [List.dropWhile_cons, if_pos (by decide)]
    exact Nat.lt_succ_of_le (List.dropWhile_sublist noline).length_le
set_option maxRecDepth 100000 in
theorem eat_s {Γ : World → Prop} {s : ByteArray} {ln : Int} {kf : Nat} {p : UInt8 → Bool} (hs : s.size ≤ 281474976710656) (hen : enters Tryz.prog kf = true) (hp : ∀ c : UInt8, CallsP Tryz.prog Γ kf [.sc (.int .u8 (c.toNat : Int))] (.sc (.bool (p c)))) : CallsB Tryz.prog Γ 19 [.sc (.string s), .sc (.int .i64 ln)] [.sc (.func (.func kf) #[] #[])] [.sc (.string (s.extract (run p s) s.size)), .sc (.int .i64 ln)] (.sc (.string (s.extract 0 (run p s)))) := by
  refine callsB_of Tryz.func19 rfl Tryz.ntmps19 rfl rfl fun w0 S0 b stab => ?_
  refine hits_seq ?_
  refine hits_region ?_
  refine sq (f_assign rfl (lt rfl)) rfl rfl ?_
  refine hits_nil ?_
  refine to_next ?_
  refine hits_seq ?_
  refine hits_region ?_
  refine sq (f_assign rfl (lt rfl)) rfl rfl ?_
  refine hits_nil ?_
  refine to_next ?_
  refine hits_seq ?_
  refine hits_block ?_
  refine hits_loop (fun i : Nat => [(.slot 0, some (.ptr 1000000 0)), (.box 1000000, some (.ptr 1000000 0)), (.cell 1000000 0, some (.d (.sc (.string s)))), (.cell 1000000 1, some (.d (.sc (.int .i64 ln)))), (.slot 1, some (.d (.sc (.func (.func kf) #[] #[])))), (.slot 5, some (.d (.sc (.int .i64 (i : Int)))))]) (fun i : Nat => i ≤ s.size ∧ (∀ c ∈ s.data.toList.take i, p c = true)) (fun i : Nat => s.size - i) 0 ⟨Nat.zero_le _, by simp⟩ ⟨rfl, rfl, rfl, rfl, rfl, rfl, trivial⟩ rfl ?_
  intro i hx
  obtain ⟨hi, hJ⟩ := hx
  refine hits_seq ?_
  refine hits_seq ?_
  by_cases h1 : i < s.size
  · obtain ⟨c, hat⟩ : ∃ c, s.data.toList[i]? = some c := ⟨_, List.getElem?_eq_getElem (by simpa using h1)⟩
    have hpc := hp c
    cases hc : p c
    · rw [hc] at hpc
      have hrun := run_stop hi hJ (.inr ⟨c, hat, hc⟩)
      refine hits_region ?_
      refine sq (f_move rfl (lt rfl)) rfl rfl ?_
      refine sq (f_move rfl (lt rfl)) rfl rfl ?_
      refine sq (f_nil rfl rfl (lt rfl)) rfl rfl ?_
      refine sq (f_fieldAddr rfl kf52_0 rfl (lt rfl)) rfl rfl ?_
      refine sq (f_load kd9 rfl rfl (lt rfl)) rfl rfl ?_
      refine sq (f_lenStr rfl un9 (lt rfl)) rfl rfl ?_
      refine sq (f_bin rfl rfl (bT (decide_eq_true (by omega))) (lt rfl)) rfl rfl ?_
      refine sq (f_move rfl (lt rfl)) rfl rfl ?_
      refine sq_yes (f_move rfl (lt rfl)) rfl rfl rfl rfl (lt rfl) ?_
      refine sq_yes (f_move rfl (lt rfl)) rfl rfl rfl rfl (lt rfl) ?_
      refine sq_yes (f_nil rfl rfl (lt rfl)) rfl rfl rfl rfl (lt rfl) ?_
      refine sq_yes (f_fieldAddr rfl kf52_0 rfl (lt rfl)) rfl rfl rfl rfl (lt rfl) ?_
      refine sq_yes (f_load kd9 rfl rfl (lt rfl)) rfl rfl rfl rfl (lt rfl) ?_
      refine sq_yes (f_move rfl (lt rfl)) rfl rfl rfl rfl (lt rfl) ?_
      refine sq_yes (f_idxS rfl rfl un9 hat (lt rfl)) rfl rfl rfl rfl (lt rfl) ?_
      refine sq_yes (f_callV rfl hen rfl hpc (lt rfl)) rfl rfl rfl rfl (lt rfl) ?_
      refine sq (f_pick rfl rfl (lt rfl)) rfl rfl ?_
      refine hits_nil ?_
      refine to_next ?_
      refine hits_cond rfl (fun c0 => absurd c0 Bool.false_ne_true) (fun c0 => ?_)
      refine hits_exit ?_
      refine to_exit ?_
      refine to_exit ?_
      refine in_hit rfl ?_
      refine to_next ?_
      refine hits_seq ?_
      subst hrun
      refine hits_region ?_
      refine sq (f_move rfl (lt rfl)) rfl rfl ?_
      refine sq (f_nil rfl rfl (lt rfl)) rfl rfl ?_
      refine sq (f_fieldAddr rfl kf52_0 rfl (lt rfl)) rfl rfl ?_
      refine sq (f_load kd9 rfl rfl (lt rfl)) rfl rfl ?_
      refine sq (f_move rfl (lt rfl)) rfl rfl ?_
      refine sq (f_sliceStr rfl rfl rfl un9 (by omega) (by omega) (by omega) (lt rfl)) rfl rfl ?_
      refine sq (f_assign rfl (lt rfl)) rfl rfl ?_
      refine hits_nil ?_
      refine to_next ?_
      refine hits_seq ?_
      refine hits_region ?_
      refine sq (f_move rfl (lt rfl)) rfl rfl ?_
      refine sq (f_move rfl (lt rfl)) rfl rfl ?_
      refine sq (f_nil rfl rfl (lt rfl)) rfl rfl ?_
      refine sq (f_fieldAddr rfl kf52_0 rfl (lt rfl)) rfl rfl ?_
      refine sq (f_load kd9 rfl rfl (lt rfl)) rfl rfl ?_
      refine sq (f_move rfl (lt rfl)) rfl rfl ?_
      refine sq (f_sliceStr rfl rfl rfl un9 (by omega) (by omega) (by omega) (lt rfl)) rfl rfl ?_
      refine sq (f_nil rfl rfl (lt rfl)) rfl rfl ?_
      refine sq (f_fieldAddr rfl kf52_0 rfl (lt rfl)) rfl rfl ?_
      refine sq (f_store kd9 rfl rfl rfl rfl rfl) rfl rfl ?_
      refine hits_nil ?_
      refine to_next ?_
      refine hits_seq ?_
      refine hits_region ?_
      refine sq (f_move rfl (lt rfl)) rfl rfl ?_
      refine sq (f_assign rfl (lt rfl)) rfl rfl ?_
      refine hits_nil ?_
      refine to_next ?_
      refine hits_ret ?_
      exact hits_doneB (.inl rfl) rfl rfl rfl rfl rfl ⟨rfl, rfl, trivial⟩ rfl
    · rw [hc] at hpc
      refine hits_region ?_
      refine sq (f_move rfl (lt rfl)) rfl rfl ?_
      refine sq (f_move rfl (lt rfl)) rfl rfl ?_
      refine sq (f_nil rfl rfl (lt rfl)) rfl rfl ?_
      refine sq (f_fieldAddr rfl kf52_0 rfl (lt rfl)) rfl rfl ?_
      refine sq (f_load kd9 rfl rfl (lt rfl)) rfl rfl ?_
      refine sq (f_lenStr rfl un9 (lt rfl)) rfl rfl ?_
      refine sq (f_bin rfl rfl (bT (decide_eq_true (by omega))) (lt rfl)) rfl rfl ?_
      refine sq (f_move rfl (lt rfl)) rfl rfl ?_
      refine sq_yes (f_move rfl (lt rfl)) rfl rfl rfl rfl (lt rfl) ?_
      refine sq_yes (f_move rfl (lt rfl)) rfl rfl rfl rfl (lt rfl) ?_
      refine sq_yes (f_nil rfl rfl (lt rfl)) rfl rfl rfl rfl (lt rfl) ?_
      refine sq_yes (f_fieldAddr rfl kf52_0 rfl (lt rfl)) rfl rfl rfl rfl (lt rfl) ?_
      refine sq_yes (f_load kd9 rfl rfl (lt rfl)) rfl rfl rfl rfl (lt rfl) ?_
      refine sq_yes (f_move rfl (lt rfl)) rfl rfl rfl rfl (lt rfl) ?_
      refine sq_yes (f_idxS rfl rfl un9 hat (lt rfl)) rfl rfl rfl rfl (lt rfl) ?_
      refine sq_yes (f_callV rfl hen rfl hpc (lt rfl)) rfl rfl rfl rfl (lt rfl) ?_
      refine sq (f_pick rfl rfl (lt rfl)) rfl rfl ?_
      refine hits_nil ?_
      refine to_next ?_
      refine hits_cond rfl (fun c0 => ?_) (fun c0 => absurd c0 Bool.false_ne_true.symm)
      refine hits_skip ?_
      refine to_next ?_
      refine hits_block ?_
      refine hits_region ?_
      refine sq (f_move rfl (lt rfl)) rfl rfl ?_
      refine sq (f_bin rfl rfl (iT (((IntWalk.i64_in _ (by omega)).trans (by omega) : _ = ((i + 1 : Nat) : Int)))) (lt rfl)) rfl rfl ?_
      refine sq (f_assign rfl (lt rfl)) rfl rfl ?_
      refine hits_nil ?_
      refine in_next ?_
      refine to_next ?_
      refine round_end (i + 1) ⟨by omega, run_more hat hc hJ⟩ (by omega) ⟨rfl, rfl, rfl, rfl, rfl, rfl, trivial⟩ rfl
  · have hrun := run_stop hi hJ (.inl (by omega))
    refine hits_region ?_
    refine sq (f_move rfl (lt rfl)) rfl rfl ?_
    refine sq (f_move rfl (lt rfl)) rfl rfl ?_
    refine sq (f_nil rfl rfl (lt rfl)) rfl rfl ?_
    refine sq (f_fieldAddr rfl kf52_0 rfl (lt rfl)) rfl rfl ?_
    refine sq (f_load kd9 rfl rfl (lt rfl)) rfl rfl ?_
    refine sq (f_lenStr rfl un9 (lt rfl)) rfl rfl ?_
    refine sq (f_bin rfl rfl (bT (decide_eq_false (by omega))) (lt rfl)) rfl rfl ?_
    refine sq (f_move rfl (lt rfl)) rfl rfl ?_
    refine sq_no rfl rfl rfl rfl rfl (lt rfl) (lt rfl) ?_
    refine sq_no rfl rfl rfl rfl rfl (lt rfl) (lt rfl) ?_
    refine sq_no rfl rfl rfl rfl rfl (lt rfl) (lt rfl) ?_
    refine sq_no rfl rfl rfl rfl rfl (lt rfl) (lt rfl) ?_
    refine sq_no rfl rfl rfl rfl rfl (lt rfl) (lt rfl) ?_
    refine sq_no rfl rfl rfl rfl rfl (lt rfl) (lt rfl) ?_
    refine sq_no rfl rfl rfl rfl rfl (lt rfl) (lt rfl) ?_
    refine sq_no rfl rfl rfl rfl rfl (lt rfl) (lt rfl) ?_
    refine sq (f_pick rfl rfl (lt rfl)) rfl rfl ?_
    refine hits_nil ?_
    refine to_next ?_
    refine hits_cond rfl (fun c0 => absurd c0 Bool.false_ne_true) (fun c0 => ?_)
    refine hits_exit ?_
    refine to_exit ?_
    refine to_exit ?_
    refine in_hit rfl ?_
    refine to_next ?_
    refine hits_seq ?_
    subst hrun
    refine hits_region ?_
    refine sq (f_move rfl (lt rfl)) rfl rfl ?_
    refine sq (f_nil rfl rfl (lt rfl)) rfl rfl ?_
    refine sq (f_fieldAddr rfl kf52_0 rfl (lt rfl)) rfl rfl ?_
    refine sq (f_load kd9 rfl rfl (lt rfl)) rfl rfl ?_
    refine sq (f_move rfl (lt rfl)) rfl rfl ?_
    refine sq (f_sliceStr rfl rfl rfl un9 (by omega) (by omega) (by omega) (lt rfl)) rfl rfl ?_
    refine sq (f_assign rfl (lt rfl)) rfl rfl ?_
    refine hits_nil ?_
    refine to_next ?_
    refine hits_seq ?_
    refine hits_region ?_
    refine sq (f_move rfl (lt rfl)) rfl rfl ?_
    refine sq (f_move rfl (lt rfl)) rfl rfl ?_
    refine sq (f_nil rfl rfl (lt rfl)) rfl rfl ?_
    refine sq (f_fieldAddr rfl kf52_0 rfl (lt rfl)) rfl rfl ?_
    refine sq (f_load kd9 rfl rfl (lt rfl)) rfl rfl ?_
    refine sq (f_move rfl (lt rfl)) rfl rfl ?_
    refine sq (f_sliceStr rfl rfl rfl un9 (by omega) (by omega) (by omega) (lt rfl)) rfl rfl ?_
    refine sq (f_nil rfl rfl (lt rfl)) rfl rfl ?_
    refine sq (f_fieldAddr rfl kf52_0 rfl (lt rfl)) rfl rfl ?_
    refine sq (f_store kd9 rfl rfl rfl rfl rfl) rfl rfl ?_
    refine hits_nil ?_
    refine to_next ?_
    refine hits_seq ?_
    refine hits_region ?_
    refine sq (f_move rfl (lt rfl)) rfl rfl ?_
    refine sq (f_assign rfl (lt rfl)) rfl rfl ?_
    refine hits_nil ?_
    refine to_next ?_
    refine hits_ret ?_
    exact hits_doneB (.inl rfl) rfl rfl rfl rfl rfl ⟨rfl, rfl, trivial⟩ rfl
theorem eat_c {Γ : World → Prop} {l : List UInt8} {ln : Int} {kf : Nat} {p : UInt8 → Bool} (hs : l.length ≤ 281474976710656) (hen : enters Tryz.prog kf = true) (hp : ∀ c : UInt8, CallsP Tryz.prog Γ kf [.sc (.int .u8 (c.toNat : Int))] (.sc (.bool (p c)))) :
    CallsB Tryz.prog Γ 19 [.sc (.string (B l)), .sc (.int .i64 ln)] [.sc (.func (.func kf) #[] #[])] [.sc (.string (B (l.dropWhile p))), .sc (.int .i64 ln)] (.sc (.string (B (l.takeWhile p)))) := by
  have h := eat_s (Γ := Γ) (s := B l) (ln := ln) (by rw [B_size]; exact hs) hen hp
  obtain ⟨h1, h2⟩ := ext_run p l
  rwa [h1, h2] at h
set_option maxRecDepth 100000 in
theorem digit_c {Γ : World → Prop} (hΓ : GS Γ) (c : UInt8) : CallsP Tryz.prog Γ 23 [.sc (.int .u8 (c.toNat : Int))] (.sc (.bool (dgt c))) := by
  refine callsP_of hΓ Tryz.func23 rfl Tryz.ntmps23 rfl fun w0 S0 stab => ?_
  refine hits_seq ?_
  refine hits_region ?_
  refine sq (f_assign rfl (lt rfl)) rfl rfl ?_
  refine hits_nil ?_
  refine to_next ?_
  refine hits_seq ?_
  by_cases h1 : 48 ≤ c.toNat
  · by_cases h2 : c.toNat ≤ 57
    · refine hits_region ?_
      refine sq (f_move rfl (lt rfl)) rfl rfl ?_
      refine sq (f_bin rfl rfl (bT (decide_eq_true (by omega))) (lt rfl)) rfl rfl ?_
      refine sq (f_move rfl (lt rfl)) rfl rfl ?_
      refine sq_yes (f_move rfl (lt rfl)) rfl rfl rfl rfl (lt rfl) ?_
      refine sq_yes (f_bin rfl rfl (bT (decide_eq_true (by omega))) (lt rfl)) rfl rfl rfl rfl (lt rfl) ?_
      refine sq (f_pick rfl rfl (lt rfl)) rfl rfl ?_
      refine sq (f_assign rfl (lt rfl)) rfl rfl ?_
      refine hits_nil ?_
      refine to_next ?_
      refine hits_ret ?_
      exact hits_done (.inl rfl) rfl rfl (by rw [show dgt c = true from decide_eq_true (by omega)]; rfl)
    · refine hits_region ?_
      refine sq (f_move rfl (lt rfl)) rfl rfl ?_
      refine sq (f_bin rfl rfl (bT (decide_eq_true (by omega))) (lt rfl)) rfl rfl ?_
      refine sq (f_move rfl (lt rfl)) rfl rfl ?_
      refine sq_yes (f_move rfl (lt rfl)) rfl rfl rfl rfl (lt rfl) ?_
      refine sq_yes (f_bin rfl rfl (bT (decide_eq_false (by omega))) (lt rfl)) rfl rfl rfl rfl (lt rfl) ?_
      refine sq (f_pick rfl rfl (lt rfl)) rfl rfl ?_
      refine sq (f_assign rfl (lt rfl)) rfl rfl ?_
      refine hits_nil ?_
      refine to_next ?_
      refine hits_ret ?_
      exact hits_done (.inl rfl) rfl rfl (by rw [show dgt c = false from decide_eq_false (by omega)]; rfl)
  · refine hits_region ?_
    refine sq (f_move rfl (lt rfl)) rfl rfl ?_
    refine sq (f_bin rfl rfl (bT (decide_eq_false (by omega))) (lt rfl)) rfl rfl ?_
    refine sq (f_move rfl (lt rfl)) rfl rfl ?_
    refine sq_no rfl rfl rfl rfl rfl (lt rfl) (lt rfl) ?_
    refine sq_no rfl rfl rfl rfl rfl (lt rfl) (lt rfl) ?_
    refine sq (f_pick rfl rfl (lt rfl)) rfl rfl ?_
    refine sq (f_assign rfl (lt rfl)) rfl rfl ?_
    refine hits_nil ?_
    refine to_next ?_
    refine hits_ret ?_
    exact hits_done (.inl rfl) rfl rfl (by rw [show dgt c = false from decide_eq_false (by omega)]; rfl)
set_option maxRecDepth 100000 in
theorem letter_c {Γ : World → Prop} (hΓ : GS Γ) (c : UInt8) : CallsP Tryz.prog Γ 24 [.sc (.int .u8 (c.toNat : Int))] (.sc (.bool (ltr c))) := by
  have hc : c.toNat < 256 := c.toNat_lt
  refine callsP_of hΓ Tryz.func24 rfl Tryz.ntmps24 rfl fun w0 S0 stab => ?_
  refine hits_seq ?_
  refine hits_region ?_
  refine sq (f_assign rfl (lt rfl)) rfl rfl ?_
  refine hits_nil ?_
  refine to_next ?_
  refine hits_seq ?_
  by_cases h1 : 97 ≤ c.toNat ||| 32
  · by_cases h2 : c.toNat ||| 32 ≤ 122
    · refine hits_region ?_
      refine sq (f_move rfl (lt rfl)) rfl rfl ?_
      refine sq (f_bin rfl rfl (iT (low_is hc)) (lt rfl)) rfl rfl ?_
      refine sq (f_bin rfl rfl (bT (decide_eq_true (by omega))) (lt rfl)) rfl rfl ?_
      refine sq (f_move rfl (lt rfl)) rfl rfl ?_
      refine sq_yes (f_move rfl (lt rfl)) rfl rfl rfl rfl (lt rfl) ?_
      refine sq_yes (f_bin rfl rfl (iT (low_is hc)) (lt rfl)) rfl rfl rfl rfl (lt rfl) ?_
      refine sq_yes (f_bin rfl rfl (bT (decide_eq_true (by omega))) (lt rfl)) rfl rfl rfl rfl (lt rfl) ?_
      refine sq (f_pick rfl rfl (lt rfl)) rfl rfl ?_
      refine sq (f_move rfl (lt rfl)) rfl rfl ?_
      refine sq_no rfl rfl rfl rfl rfl (lt rfl) (lt rfl) ?_
      refine sq_no rfl rfl rfl rfl rfl (lt rfl) (lt rfl) ?_
      refine sq (f_pick rfl rfl (lt rfl)) rfl rfl ?_
      refine sq (f_assign rfl (lt rfl)) rfl rfl ?_
      refine hits_nil ?_
      refine to_next ?_
      refine hits_ret ?_
      exact hits_done (.inl rfl) rfl rfl (by rw [show ltr c = true from decide_eq_true (by omega)]; rfl)
    · by_cases h3 : c.toNat = 95
      · refine hits_region ?_
        refine sq (f_move rfl (lt rfl)) rfl rfl ?_
        refine sq (f_bin rfl rfl (iT (low_is hc)) (lt rfl)) rfl rfl ?_
        refine sq (f_bin rfl rfl (bT (decide_eq_true (by omega))) (lt rfl)) rfl rfl ?_
        refine sq (f_move rfl (lt rfl)) rfl rfl ?_
        refine sq_yes (f_move rfl (lt rfl)) rfl rfl rfl rfl (lt rfl) ?_
        refine sq_yes (f_bin rfl rfl (iT (low_is hc)) (lt rfl)) rfl rfl rfl rfl (lt rfl) ?_
        refine sq_yes (f_bin rfl rfl (bT (decide_eq_false (by omega))) (lt rfl)) rfl rfl rfl rfl (lt rfl) ?_
        refine sq (f_pick rfl rfl (lt rfl)) rfl rfl ?_
        refine sq (f_move rfl (lt rfl)) rfl rfl ?_
        refine sq_yes (f_move rfl (lt rfl)) rfl rfl rfl rfl (lt rfl) ?_
        refine sq_yes (f_bin rfl rfl (bT (beq_iff_eq.mpr (by omega))) (lt rfl)) rfl rfl rfl rfl (lt rfl) ?_
        refine sq (f_pick rfl rfl (lt rfl)) rfl rfl ?_
        refine sq (f_assign rfl (lt rfl)) rfl rfl ?_
        refine hits_nil ?_
        refine to_next ?_
        refine hits_ret ?_
        exact hits_done (.inl rfl) rfl rfl (by rw [show ltr c = true from decide_eq_true (by omega)]; rfl)
      · refine hits_region ?_
        refine sq (f_move rfl (lt rfl)) rfl rfl ?_
        refine sq (f_bin rfl rfl (iT (low_is hc)) (lt rfl)) rfl rfl ?_
        refine sq (f_bin rfl rfl (bT (decide_eq_true (by omega))) (lt rfl)) rfl rfl ?_
        refine sq (f_move rfl (lt rfl)) rfl rfl ?_
        refine sq_yes (f_move rfl (lt rfl)) rfl rfl rfl rfl (lt rfl) ?_
        refine sq_yes (f_bin rfl rfl (iT (low_is hc)) (lt rfl)) rfl rfl rfl rfl (lt rfl) ?_
        refine sq_yes (f_bin rfl rfl (bT (decide_eq_false (by omega))) (lt rfl)) rfl rfl rfl rfl (lt rfl) ?_
        refine sq (f_pick rfl rfl (lt rfl)) rfl rfl ?_
        refine sq (f_move rfl (lt rfl)) rfl rfl ?_
        refine sq_yes (f_move rfl (lt rfl)) rfl rfl rfl rfl (lt rfl) ?_
        refine sq_yes (f_bin rfl rfl (bT (beq_eq_false_iff_ne.mpr (by omega))) (lt rfl)) rfl rfl rfl rfl (lt rfl) ?_
        refine sq (f_pick rfl rfl (lt rfl)) rfl rfl ?_
        refine sq (f_assign rfl (lt rfl)) rfl rfl ?_
        refine hits_nil ?_
        refine to_next ?_
        refine hits_ret ?_
        exact hits_done (.inl rfl) rfl rfl (by rw [show ltr c = false from decide_eq_false (by omega)]; rfl)
  · by_cases h3 : c.toNat = 95
    · refine hits_region ?_
      refine sq (f_move rfl (lt rfl)) rfl rfl ?_
      refine sq (f_bin rfl rfl (iT (low_is hc)) (lt rfl)) rfl rfl ?_
      refine sq (f_bin rfl rfl (bT (decide_eq_false (by omega))) (lt rfl)) rfl rfl ?_
      refine sq (f_move rfl (lt rfl)) rfl rfl ?_
      refine sq_no rfl rfl rfl rfl rfl (lt rfl) (lt rfl) ?_
      refine sq_no rfl rfl rfl rfl rfl (lt rfl) (lt rfl) ?_
      refine sq_no rfl rfl rfl rfl rfl (lt rfl) (lt rfl) ?_
      refine sq (f_pick rfl rfl (lt rfl)) rfl rfl ?_
      refine sq (f_move rfl (lt rfl)) rfl rfl ?_
      refine sq_yes (f_move rfl (lt rfl)) rfl rfl rfl rfl (lt rfl) ?_
      refine sq_yes (f_bin rfl rfl (bT (beq_iff_eq.mpr (by omega))) (lt rfl)) rfl rfl rfl rfl (lt rfl) ?_
      refine sq (f_pick rfl rfl (lt rfl)) rfl rfl ?_
      refine sq (f_assign rfl (lt rfl)) rfl rfl ?_
      refine hits_nil ?_
      refine to_next ?_
      refine hits_ret ?_
      exact hits_done (.inl rfl) rfl rfl (by rw [show ltr c = true from decide_eq_true (by omega)]; rfl)
    · refine hits_region ?_
      refine sq (f_move rfl (lt rfl)) rfl rfl ?_
      refine sq (f_bin rfl rfl (iT (low_is hc)) (lt rfl)) rfl rfl ?_
      refine sq (f_bin rfl rfl (bT (decide_eq_false (by omega))) (lt rfl)) rfl rfl ?_
      refine sq (f_move rfl (lt rfl)) rfl rfl ?_
      refine sq_no rfl rfl rfl rfl rfl (lt rfl) (lt rfl) ?_
      refine sq_no rfl rfl rfl rfl rfl (lt rfl) (lt rfl) ?_
      refine sq_no rfl rfl rfl rfl rfl (lt rfl) (lt rfl) ?_
      refine sq (f_pick rfl rfl (lt rfl)) rfl rfl ?_
      refine sq (f_move rfl (lt rfl)) rfl rfl ?_
      refine sq_yes (f_move rfl (lt rfl)) rfl rfl rfl rfl (lt rfl) ?_
      refine sq_yes (f_bin rfl rfl (bT (beq_eq_false_iff_ne.mpr (by omega))) (lt rfl)) rfl rfl rfl rfl (lt rfl) ?_
      refine sq (f_pick rfl rfl (lt rfl)) rfl rfl ?_
      refine sq (f_assign rfl (lt rfl)) rfl rfl ?_
      refine hits_nil ?_
      refine to_next ?_
      refine hits_ret ?_
      exact hits_done (.inl rfl) rfl rfl (by rw [show ltr c = false from decide_eq_false (by omega)]; rfl)
set_option maxRecDepth 100000 in
theorem blank_c {Γ : World → Prop} (hΓ : GS Γ) (c : UInt8) : CallsP Tryz.prog Γ 20 [.sc (.int .u8 (c.toNat : Int))] (.sc (.bool (blank c))) := by
  refine callsP_of hΓ Tryz.func20 rfl Tryz.ntmps20 rfl fun w0 S0 stab => ?_
  refine hits_seq ?_
  refine hits_region ?_
  refine sq (f_assign rfl (lt rfl)) rfl rfl ?_
  refine hits_nil ?_
  refine to_next ?_
  refine hits_seq ?_
  by_cases h1 : c.toNat = 32
  · refine hits_region ?_
    refine sq (f_move rfl (lt rfl)) rfl rfl ?_
    refine sq (f_bin rfl rfl (bT (beq_iff_eq.mpr (by omega))) (lt rfl)) rfl rfl ?_
    refine sq (f_move rfl (lt rfl)) rfl rfl ?_
    refine sq_no rfl rfl rfl rfl rfl (lt rfl) (lt rfl) ?_
    refine sq_no rfl rfl rfl rfl rfl (lt rfl) (lt rfl) ?_
    refine sq (f_pick rfl rfl (lt rfl)) rfl rfl ?_
    refine sq (f_move rfl (lt rfl)) rfl rfl ?_
    refine sq_no rfl rfl rfl rfl rfl (lt rfl) (lt rfl) ?_
    refine sq_no rfl rfl rfl rfl rfl (lt rfl) (lt rfl) ?_
    refine sq (f_pick rfl rfl (lt rfl)) rfl rfl ?_
    refine sq (f_assign rfl (lt rfl)) rfl rfl ?_
    refine hits_nil ?_
    refine to_next ?_
    refine hits_ret ?_
    exact hits_done (.inl rfl) rfl rfl (by rw [show blank c = true from decide_eq_true (by omega)]; rfl)
  · by_cases h2 : c.toNat = 9
    · refine hits_region ?_
      refine sq (f_move rfl (lt rfl)) rfl rfl ?_
      refine sq (f_bin rfl rfl (bT (beq_eq_false_iff_ne.mpr (by omega))) (lt rfl)) rfl rfl ?_
      refine sq (f_move rfl (lt rfl)) rfl rfl ?_
      refine sq_yes (f_move rfl (lt rfl)) rfl rfl rfl rfl (lt rfl) ?_
      refine sq_yes (f_bin rfl rfl (bT (beq_iff_eq.mpr (by omega))) (lt rfl)) rfl rfl rfl rfl (lt rfl) ?_
      refine sq (f_pick rfl rfl (lt rfl)) rfl rfl ?_
      refine sq (f_move rfl (lt rfl)) rfl rfl ?_
      refine sq_no rfl rfl rfl rfl rfl (lt rfl) (lt rfl) ?_
      refine sq_no rfl rfl rfl rfl rfl (lt rfl) (lt rfl) ?_
      refine sq (f_pick rfl rfl (lt rfl)) rfl rfl ?_
      refine sq (f_assign rfl (lt rfl)) rfl rfl ?_
      refine hits_nil ?_
      refine to_next ?_
      refine hits_ret ?_
      exact hits_done (.inl rfl) rfl rfl (by rw [show blank c = true from decide_eq_true (by omega)]; rfl)
    · by_cases h3 : c.toNat = 10
      · refine hits_region ?_
        refine sq (f_move rfl (lt rfl)) rfl rfl ?_
        refine sq (f_bin rfl rfl (bT (beq_eq_false_iff_ne.mpr (by omega))) (lt rfl)) rfl rfl ?_
        refine sq (f_move rfl (lt rfl)) rfl rfl ?_
        refine sq_yes (f_move rfl (lt rfl)) rfl rfl rfl rfl (lt rfl) ?_
        refine sq_yes (f_bin rfl rfl (bT (beq_eq_false_iff_ne.mpr (by omega))) (lt rfl)) rfl rfl rfl rfl (lt rfl) ?_
        refine sq (f_pick rfl rfl (lt rfl)) rfl rfl ?_
        refine sq (f_move rfl (lt rfl)) rfl rfl ?_
        refine sq_yes (f_move rfl (lt rfl)) rfl rfl rfl rfl (lt rfl) ?_
        refine sq_yes (f_bin rfl rfl (bT (beq_iff_eq.mpr (by omega))) (lt rfl)) rfl rfl rfl rfl (lt rfl) ?_
        refine sq (f_pick rfl rfl (lt rfl)) rfl rfl ?_
        refine sq (f_assign rfl (lt rfl)) rfl rfl ?_
        refine hits_nil ?_
        refine to_next ?_
        refine hits_ret ?_
        exact hits_done (.inl rfl) rfl rfl (by rw [show blank c = true from decide_eq_true (by omega)]; rfl)
      · refine hits_region ?_
        refine sq (f_move rfl (lt rfl)) rfl rfl ?_
        refine sq (f_bin rfl rfl (bT (beq_eq_false_iff_ne.mpr (by omega))) (lt rfl)) rfl rfl ?_
        refine sq (f_move rfl (lt rfl)) rfl rfl ?_
        refine sq_yes (f_move rfl (lt rfl)) rfl rfl rfl rfl (lt rfl) ?_
        refine sq_yes (f_bin rfl rfl (bT (beq_eq_false_iff_ne.mpr (by omega))) (lt rfl)) rfl rfl rfl rfl (lt rfl) ?_
        refine sq (f_pick rfl rfl (lt rfl)) rfl rfl ?_
        refine sq (f_move rfl (lt rfl)) rfl rfl ?_
        refine sq_yes (f_move rfl (lt rfl)) rfl rfl rfl rfl (lt rfl) ?_
        refine sq_yes (f_bin rfl rfl (bT (beq_eq_false_iff_ne.mpr (by omega))) (lt rfl)) rfl rfl rfl rfl (lt rfl) ?_
        refine sq (f_pick rfl rfl (lt rfl)) rfl rfl ?_
        refine sq (f_assign rfl (lt rfl)) rfl rfl ?_
        refine hits_nil ?_
        refine to_next ?_
        refine hits_ret ?_
        exact hits_done (.inl rfl) rfl rfl (by rw [show blank c = false from decide_eq_false (by omega)]; rfl)
set_option maxRecDepth 100000 in
theorem noline_c {Γ : World → Prop} (hΓ : GS Γ) (c : UInt8) : CallsP Tryz.prog Γ 22 [.sc (.int .u8 (c.toNat : Int))] (.sc (.bool (noline c))) := by
  refine callsP_of hΓ Tryz.func22 rfl Tryz.ntmps22 rfl fun w0 S0 stab => ?_
  refine hits_seq ?_
  refine hits_region ?_
  refine sq (f_assign rfl (lt rfl)) rfl rfl ?_
  refine hits_nil ?_
  refine to_next ?_
  refine hits_seq ?_
  by_cases h1 : c.toNat = 10
  · refine hits_region ?_
    refine sq (f_move rfl (lt rfl)) rfl rfl ?_
    refine sq (f_bin rfl rfl (bT (show ((c.toNat : Int) != 10) = false from by rw [h1]; rfl)) (lt rfl)) rfl rfl ?_
    refine sq (f_assign rfl (lt rfl)) rfl rfl ?_
    refine hits_nil ?_
    refine to_next ?_
    refine hits_ret ?_
    exact hits_done (.inl rfl) rfl rfl (by rw [show noline c = false from decide_eq_false (by omega)]; rfl)
  · refine hits_region ?_
    refine sq (f_move rfl (lt rfl)) rfl rfl ?_
    refine sq (f_bin rfl rfl (bT (show ((c.toNat : Int) != 10) = true from bne_iff_ne.mpr (by omega))) (lt rfl)) rfl rfl ?_
    refine sq (f_assign rfl (lt rfl)) rfl rfl ?_
    refine hits_nil ?_
    refine to_next ?_
    refine hits_ret ?_
    exact hits_done (.inl rfl) rfl rfl (by rw [show noline c = true from decide_eq_true (by omega)]; rfl)
set_option maxRecDepth 100000 in
theorem aln_c {Γ : World → Prop} (hΓ : GS Γ) (c : UInt8) : CallsP Tryz.prog Γ 25 [.sc (.int .u8 (c.toNat : Int))] (.sc (.bool (aln c))) := by
  have h1 := digit_c hΓ c
  have h2 := letter_c hΓ c
  refine callsP_of hΓ Tryz.func25 rfl Tryz.ntmps25 rfl fun w0 S0 stab => ?_
  refine hits_seq ?_
  refine hits_region ?_
  refine sq (f_assign rfl (lt rfl)) rfl rfl ?_
  refine hits_nil ?_
  refine to_next ?_
  refine hits_seq ?_
  cases hd : dgt c
  · rw [hd] at h1
    cases hl : ltr c
    · rw [hl] at h2
      refine hits_region ?_
      refine sq (f_move rfl (lt rfl)) rfl rfl ?_
      refine sq (f_call en23 rfl h1 (lt rfl)) rfl rfl ?_
      refine sq (f_move rfl (lt rfl)) rfl rfl ?_
      refine sq_yes (f_move rfl (lt rfl)) rfl rfl rfl rfl (lt rfl) ?_
      refine sq_yes (f_call en24 rfl h2 (lt rfl)) rfl rfl rfl rfl (lt rfl) ?_
      refine sq (f_pick rfl rfl (lt rfl)) rfl rfl ?_
      refine sq (f_assign rfl (lt rfl)) rfl rfl ?_
      refine hits_nil ?_
      refine to_next ?_
      refine hits_ret ?_
      exact hits_done (.inl rfl) rfl rfl (by rw [aln, hd, hl]; rfl)
    · rw [hl] at h2
      refine hits_region ?_
      refine sq (f_move rfl (lt rfl)) rfl rfl ?_
      refine sq (f_call en23 rfl h1 (lt rfl)) rfl rfl ?_
      refine sq (f_move rfl (lt rfl)) rfl rfl ?_
      refine sq_yes (f_move rfl (lt rfl)) rfl rfl rfl rfl (lt rfl) ?_
      refine sq_yes (f_call en24 rfl h2 (lt rfl)) rfl rfl rfl rfl (lt rfl) ?_
      refine sq (f_pick rfl rfl (lt rfl)) rfl rfl ?_
      refine sq (f_assign rfl (lt rfl)) rfl rfl ?_
      refine hits_nil ?_
      refine to_next ?_
      refine hits_ret ?_
      exact hits_done (.inl rfl) rfl rfl (by rw [aln, hd, hl]; rfl)
  · rw [hd] at h1
    refine hits_region ?_
    refine sq (f_move rfl (lt rfl)) rfl rfl ?_
    refine sq (f_call en23 rfl h1 (lt rfl)) rfl rfl ?_
    refine sq (f_move rfl (lt rfl)) rfl rfl ?_
    refine sq_no rfl rfl rfl rfl rfl (lt rfl) (lt rfl) ?_
    refine sq_no rfl rfl rfl rfl rfl (lt rfl) (lt rfl) ?_
    refine sq (f_pick rfl rfl (lt rfl)) rfl rfl ?_
    refine sq (f_assign rfl (lt rfl)) rfl rfl ?_
    refine hits_nil ?_
    refine to_next ?_
    refine hits_ret ?_
    exact hits_done (.inl rfl) rfl rfl (by rw [aln, hd, Bool.true_or]; rfl)
theorem has_c {Γ : World → Prop} (t p : List UInt8) : CallsP Tryz.prog Γ 21 [.sc (.string (B t)), .sc (.string (B p))] (.sc (.bool (p.isPrefixOf t))) :=
  lift rfl rfl fun w _ => (Tryz.strings_HasPrefix (B t) (B p) w).mono fun e w' q => ⟨by rw [q.1, B_toList, B_toList]; rfl, by rw [q.2]; exact Below.refl _ _⟩
set_option maxRecDepth 100000 in
theorem skip_c {Γ : World → Prop} (hΓ : GS Γ) {l t' : List UInt8} {n n' : Nat} (hl : l.length ≤ 281474976710656) (hn : n + l.length ≤ 281474976710656) (hs : skip false l n = (t', n')) : CallsB Tryz.prog Γ 11 [.sc (.string (B l)), .sc (.int .i64 (n : Int))] [] [.sc (.string (B t')), .sc (.int .i64 (n' : Int))] (.tup []) := by
  have hE1 : enters Tryz.prog 20 = true := en20
  have hE2 : enters Tryz.prog 22 = true := en22
  refine callsB_of Tryz.func11 rfl Tryz.ntmps11 rfl rfl fun w0 S0 b stab => ?_
  refine hits_block ?_
  refine hits_loop (fun x : List UInt8 × Nat => [(.slot 0, some (.ptr 1000000 0)), (.box 1000000, some (.ptr 1000000 0)), (.cell 1000000 0, some (.d (.sc (.string (B x.1))))), (.cell 1000000 1, some (.d (.sc (.int .i64 (x.2 : Int)))))]) (fun x : List UInt8 × Nat => x.1.length ≤ l.length ∧ x.2 + x.1.length ≤ n + l.length ∧ skip false x.1 x.2 = (t', n')) (fun x : List UInt8 × Nat => x.1.length) (l, n) ⟨Nat.le_refl _, Nat.le_refl _, hs⟩ ⟨rfl, rfl, rfl, rfl, trivial⟩ rfl ?_
  intro x hx
  obtain ⟨t, m⟩ := x
  obtain ⟨hlt, hnt, hJ⟩ := hx
  simp only at hlt hnt hJ
  change Hits _ [(.slot 0, some (.ptr 1000000 0)), (.box 1000000, some (.ptr 1000000 0)), (.cell 1000000 0, some (.d (.sc (.string (B t))))), (.cell 1000000 1, some (.d (.sc (.int .i64 (m : Int)))))] _
  have hbl := all_take blank t
  have hlen := len_split blank t
  have hcl := count_le (t.takeWhile blank)
  refine hits_block ?_
  refine hits_seq ?_
  refine hits_seq ?_
  refine hits_region ?_
  refine sq (f_move rfl (lt rfl)) rfl rfl ?_
  refine sq_callB en19 rfl rfl (eat_c (by omega) hE1 (blank_c hΓ)) ⟨rfl, rfl, trivial⟩ rfl rfl rfl rfl (lt rfl) ?_
  refine sq (f_range rfl un9 (lt rfl)) rfl rfl ?_
  refine hits_nil ?_
  refine to_next ?_
  refine hits_block ?_
  refine hits_loop (fun i : Nat => [(.slot 0, some (.ptr 1000000 0)), (.box 1000000, some (.ptr 1000000 0)), (.cell 1000000 0, some (.d (.sc (.string (B (t.dropWhile blank)))))), (.cell 1000000 1, some (.d (.sc (.int .i64 ((m + ((t.takeWhile blank).take i).count 10 : Nat) : Int))))), (.slot 6, some (.ptr 6 0)), (.box 6, some (.ptr 6 0)), (.iter 6, some (itV (.inl (B (t.takeWhile blank))) i))]) (fun i : Nat => i ≤ (t.takeWhile blank).length) (fun i : Nat => (t.takeWhile blank).length - i) 0 (Nat.zero_le _) ⟨rfl, rfl, rfl, rfl, rfl, rfl, rfl, trivial⟩ rfl ?_
  intro i hi0
  have hci := count_le ((t.takeWhile blank).take i)
  have hct := count_take_le (t.takeWhile blank) i
  have hct1 := count_take_le (t.takeWhile blank) (i + 1)
  refine hits_seq ?_
  by_cases hi : i < (t.takeWhile blank).length
  · obtain ⟨c, hc⟩ : ∃ c, (t.takeWhile blank)[i]? = some c := ⟨_, List.getElem?_eq_getElem hi⟩
    have hdec := blank_dec hbl hc
    have hcnt := count_take hc
    refine hits_region ?_
    refine sq (f_nextMore rfl rfl (by rw [B_size]; exact hi) hdec (lt rfl)) rfl rfl ?_
    refine sq (f_extract rfl rfl (lt rfl)) rfl rfl ?_
    refine hits_nil ?_
    refine to_next ?_
    refine hits_seq ?_
    refine hits_cond rfl (fun c0 => ?_) (fun c0 => absurd c0 Bool.false_ne_true.symm)
    refine hits_skip ?_
    refine to_next ?_
    refine hits_block ?_
    refine hits_seq ?_
    refine hits_region ?_
    refine sq (f_extract rfl rfl (lt rfl)) rfl rfl ?_
    refine sq (f_assign rfl (lt rfl)) rfl rfl ?_
    refine hits_nil ?_
    refine to_next ?_
    refine hits_seq ?_
    by_cases h10 : c.toNat = 10
    · rw [if_pos h10] at hcnt
      refine hits_region ?_
      refine sq (f_move rfl (lt rfl)) rfl rfl ?_
      refine sq (f_bin rfl rfl (bT (beq_iff_eq.mpr (by omega))) (lt rfl)) rfl rfl ?_
      refine hits_nil ?_
      refine to_next ?_
      refine hits_cond rfl (fun c1 => ?_) (fun c1 => absurd c1 Bool.false_ne_true.symm)
      refine hits_region ?_
      refine sq (f_move rfl (lt rfl)) rfl rfl ?_
      refine sq (f_nil rfl rfl (lt rfl)) rfl rfl ?_
      refine sq (f_fieldAddr rfl kf52_1 rfl (lt rfl)) rfl rfl ?_
      refine sq (f_load kd3 rfl rfl (lt rfl)) rfl rfl ?_
      refine sq (f_bin rfl rfl (iT (((IntWalk.i64_in _ (by omega)).trans (by omega) : _ = ((m + ((t.takeWhile blank).take (i + 1)).count 10 : Nat) : Int)))) (lt rfl)) rfl rfl ?_
      refine sq (f_nil rfl rfl (lt rfl)) rfl rfl ?_
      refine sq (f_fieldAddr rfl kf52_1 rfl (lt rfl)) rfl rfl ?_
      refine sq (f_store kd3 rfl rfl rfl rfl rfl) rfl rfl ?_
      refine hits_nil ?_
      refine in_next ?_
      refine to_next ?_
      refine round_end (i + 1) hi (by omega) ⟨rfl, rfl, rfl, rfl, rfl, rfl, rfl, trivial⟩ rfl
    · rw [if_neg h10, Nat.add_zero] at hcnt
      refine hits_region ?_
      refine sq (f_move rfl (lt rfl)) rfl rfl ?_
      refine sq (f_bin rfl rfl (bT (beq_eq_false_iff_ne.mpr (by omega))) (lt rfl)) rfl rfl ?_
      refine hits_nil ?_
      refine to_next ?_
      refine hits_cond rfl (fun c1 => absurd c1 Bool.false_ne_true) (fun c1 => ?_)
      refine hits_skip ?_
      refine in_next ?_
      refine to_next ?_
      refine round_end (i + 1) hi (by omega) ⟨rfl, rfl, rfl, congrArg (fun z : Nat => some (V.d (.sc (.int .i64 ((m + z : Nat) : Int))))) hcnt, rfl, rfl, rfl, trivial⟩ rfl
  · have hi' : i = (t.takeWhile blank).length := by omega
    subst hi'
    rw [List.take_length] at *
    refine hits_region ?_
    refine sq (f_nextEnd rfl rfl (by rw [B_size]; exact Nat.le_refl _) (lt rfl)) rfl rfl ?_
    refine sq (f_extract rfl rfl (lt rfl)) rfl rfl ?_
    refine hits_nil ?_
    refine to_next ?_
    refine hits_seq ?_
    refine hits_cond rfl (fun c0 => absurd c0 Bool.false_ne_true) (fun c0 => ?_)
    refine hits_exit ?_
    refine to_exit ?_
    refine to_exit ?_
    refine in_hit rfl ?_
    refine to_next ?_
    refine hits_seq ?_
    refine hits_seq ?_
    cases hp : List.isPrefixOf [47, 47] (t.dropWhile blank)
    · have hh := has_c (Γ := Γ) (t.dropWhile blank) [47, 47]
      rw [hp] at hh
      obtain ⟨rfl, rfl⟩ := skip_fin hJ hp
      refine hits_region ?_
      refine sq (f_move rfl (lt rfl)) rfl rfl ?_
      refine sq (f_nil rfl rfl (lt rfl)) rfl rfl ?_
      refine sq (f_fieldAddr rfl kf52_0 rfl (lt rfl)) rfl rfl ?_
      refine sq (f_load kd9 rfl rfl (lt rfl)) rfl rfl ?_
      refine sq (f_call en21 rfl hh (lt rfl)) rfl rfl ?_
      refine sq (f_un rfl rfl (lt rfl)) rfl rfl ?_
      refine hits_nil ?_
      refine to_next ?_
      refine hits_cond rfl (fun c2 => ?_) (fun c2 => absurd c2 Bool.false_ne_true.symm)
      refine hits_ret ?_
      refine to_ret ?_
      refine in_ret ?_
      refine to_ret ?_
      refine in_ret ?_
      exact hits_doneB (.inl rfl) rfl rfl rfl rfl rfl ⟨rfl, rfl, trivial⟩ rfl
    · have hh := has_c (Γ := Γ) (t.dropWhile blank) [47, 47]
      rw [hp] at hh
      have hst := skip_go hJ hp
      refine hits_region ?_
      refine sq (f_move rfl (lt rfl)) rfl rfl ?_
      refine sq (f_nil rfl rfl (lt rfl)) rfl rfl ?_
      refine sq (f_fieldAddr rfl kf52_0 rfl (lt rfl)) rfl rfl ?_
      refine sq (f_load kd9 rfl rfl (lt rfl)) rfl rfl ?_
      refine sq (f_call en21 rfl hh (lt rfl)) rfl rfl ?_
      refine sq (f_un rfl rfl (lt rfl)) rfl rfl ?_
      refine hits_nil ?_
      refine to_next ?_
      refine hits_cond rfl (fun c2 => absurd c2 Bool.false_ne_true) (fun c2 => ?_)
      refine hits_skip ?_
      refine to_next ?_
      refine hits_region ?_
      refine sq (f_move rfl (lt rfl)) rfl rfl ?_
      refine sq_callB en19 rfl rfl (eat_c (by omega) hE2 (noline_c hΓ)) ⟨rfl, rfl, trivial⟩ rfl rfl rfl rfl (lt rfl) ?_
      refine hits_nil ?_
      refine in_next ?_
      refine to_next ?_
      obtain ⟨hst1, hst2, hst3⟩ := hst
      refine round_end ((t.dropWhile blank).dropWhile noline, m + (t.takeWhile blank).count 10) ⟨by simp only; omega, by simp only; omega, hst1⟩ (by simp only; omega) ⟨rfl, rfl, rfl, rfl, trivial⟩ rfl
end Go.Proofs.YtbgeejmhkmjfdaaGreatDoor.Ln
