/- lex.Words over data. -/
import Derived.Test.YtbgeejmhkmjfdaaGreatDoorAbWord
namespace Go.Proofs.YtbgeejmhkmjfdaaGreatDoor.Ln
open Go Go.RowKit Go.Ab Go.Proofs 
set_option linter.unusedVariables false
set_option linter.unusedSimpArgs false
theorem en12 : enters Tryz.prog 12 = true := by kernel_rfl
theorem sk22 : sk Tryz.prog 22 = some (37, 6, [.int .u8 0, .string ByteArray.empty, .int .i64 0, .int .u64 0, .int .u64 0, .int .i64 0]) := by kernel_rfl
theorem apk22 : apk Tryz.prog 22 22 = some (37, 6, 56) := by kernel_rfl
theorem bu52 : bk Tryz.prog 52 = some ([(0, 1), (1, 1)], [.string ByteArray.empty, .int .i64 0]) := by kernel_rfl
theorem en11 : enters Tryz.prog 11 = true := by kernel_rfl
theorem kf37_3 : kf Tryz.prog 37 3 = some 5 := by kernel_rfl
def wordsD : Nat ⊕ List Wd → D
  | .inl e => .tup [.list 6 [], .sc (.int .i64 (e : Int)), .sc (.int .i64 4)]
  | .inr l => .tup [.list 6 (l.map wordD), .sc (.int .i64 0), .sc (.int .i64 0)]
def words_app (l : List Wd) : Nat ⊕ List Wd → Nat ⊕ List Wd
  | .inl e => .inl e
  | .inr r => .inr (l ++ r)
theorem skip_cnt {s t : List UInt8} {n m : Nat} (h : skip false s n = (t, m)) : t.length ≤ s.length ∧ m + t.length ≤ n + s.length := by
  have h1 := skip_le false s n
  have h2 := skip_count false s n
  rw [h] at h1 h2
  simp only at h1 h2
  have h3 : s.count 10 - t.count 10 ≤ s.length - t.length := by
    have := skip_len false s n
    rw [h] at this
    exact this
  have h4 := List.count_le_length (a := (10 : UInt8)) (l := t)
  exact ⟨h1, by omega⟩
theorem words_first {s t : List UInt8} {n : Nat} (h : skip false s 0 = (t, n)) : W s 0 = words_app [] (W t n) := by
  have h2 := skip_stops false s 0
  rw [h] at h2
  have : W s 0 = W t n := W_skip (by rw [h, skip_stop n h2])
  rw [this]
  cases W t n <;> simp [words_app]
theorem words_step {s t t1 t2 : List UInt8} {m n2 : Nat} {x : Wd} {l : List Wd} (hs : skip false t m = (t, m)) (hw : word t = some (x, t1)) (h2 : skip false t1 m = (t2, n2)) (hJ : W s 0 = words_app l (W t m)) : W s 0 = words_app (l ++ [{ x with ln := m }]) (W t2 n2) := by
  have h3 := skip_stops false t1 m
  rw [h2] at h3
  have e : W t1 m = W t2 n2 := W_skip (by rw [h2, skip_stop n2 h3])
  rw [hJ, W_some hs hw, e]
  cases W t2 n2 <;> simp [words_app]
set_option maxRecDepth 100000 in
theorem words_big (s : ByteArray) (hs : 65536 < s.size) : CallsP Tryz.prog Lw 6 [.sc (.string s)] (.tup [.list 6 [], .sc (.int .i64 0), .sc (.int .i64 3)]) := by
  refine callsP_of gs_lw Tryz.func6 rfl Tryz.ntmps6 rfl fun w0 S0 stab => ?_
  refine hits_seq ?_
  refine hits_region ?_
  refine sq (f_assign rfl (lt rfl)) rfl rfl ?_
  refine sq (f_assign rfl (lt rfl)) rfl rfl ?_
  refine sq (f_assign rfl (lt rfl)) rfl rfl ?_
  refine hits_nil ?_
  refine to_next ?_
  refine hits_seq ?_
  refine hits_seq ?_
  refine hits_region ?_
  refine sq (f_move rfl (lt rfl)) rfl rfl ?_
  refine sq (f_lenStr rfl un9 (lt rfl)) rfl rfl ?_
  refine sq (f_bin rfl rfl (bT (decide_eq_true (by omega))) (lt rfl)) rfl rfl ?_
  refine hits_nil ?_
  refine to_next ?_
  refine hits_cond rfl (fun c0 => ?_) (fun c0 => absurd c0 Bool.false_ne_true.symm)
  refine hits_seq ?_
  refine hits_region ?_
  refine sq (f_assign rfl (lt rfl)) rfl rfl ?_
  refine sq (f_assign rfl (lt rfl)) rfl rfl ?_
  refine sq (f_assign rfl (lt rfl)) rfl rfl ?_
  refine hits_nil ?_
  refine to_next ?_
  refine hits_ret ?_
  refine to_ret ?_
  refine hits_own 2 2 6 rfl ?_
  exact hits_done (.inl rfl) rfl rfl rfl
set_option maxRecDepth 100000 in
theorem words_c (s : List UInt8) (hs : s.length ≤ 65536) : CallsP Tryz.prog Lw 6 [.sc (.string (B s))] (wordsD (W s 0)) := by
  obtain ⟨t0, n0, h0⟩ : ∃ t n, skip false s 0 = (t, n) := ⟨_, _, rfl⟩
  have hb0 := skip_cnt h0
  have hst0 := skip_stops false s 0
  rw [h0] at hst0
  refine callsP_of gs_lw Tryz.func6 rfl Tryz.ntmps6 rfl fun w0 S0 stab => ?_
  refine hits_seq ?_
  refine hits_region ?_
  refine sq (f_assign rfl (lt rfl)) rfl rfl ?_
  refine sq (f_assign rfl (lt rfl)) rfl rfl ?_
  refine sq (f_assign rfl (lt rfl)) rfl rfl ?_
  refine hits_nil ?_
  refine to_next ?_
  refine hits_seq ?_
  refine hits_seq ?_
  refine hits_region ?_
  refine sq (f_move rfl (lt rfl)) rfl rfl ?_
  refine sq (f_lenStr rfl un9 (lt rfl)) rfl rfl ?_
  refine sq (f_bin rfl rfl (bT (decide_eq_false (by rw [B_size]; omega))) (lt rfl)) rfl rfl ?_
  refine hits_nil ?_
  refine to_next ?_
  refine hits_cond rfl (fun c0 => absurd c0 Bool.false_ne_true) (fun c0 => ?_)
  refine hits_skip ?_
  refine to_next ?_
  refine hits_seq ?_
  refine hits_region ?_
  refine sq (f_move rfl (lt rfl)) rfl rfl ?_
  refine sq (f_build bu52 rfl rfl (lt rfl)) rfl rfl ?_
  refine sq (f_box rfl rfl (lt rfl)) rfl rfl ?_
  refine sq (f_assign rfl (lt rfl)) rfl rfl ?_
  refine hits_nil ?_
  refine to_next ?_
  refine hits_seq ?_
  refine hits_region ?_
  refine sq (f_assign rfl (lt rfl)) rfl rfl ?_
  refine hits_nil ?_
  refine to_next ?_
  refine hits_seq ?_
  refine hits_seq ?_
  refine hits_region ?_
  refine sq (f_move rfl (lt rfl)) rfl rfl ?_
  refine sq_callB en11 rfl rfl (skip_c gs_lw (n := 0) (by omega) (by omega) h0) ⟨rfl, rfl, trivial⟩ rfl rfl rfl rfl (lt rfl) ?_
  refine hits_nil ?_
  refine to_next ?_
  refine hits_block ?_
  refine hits_own 6 6 6 rfl ?_
  refine hits_loop (fun x : List Wd × List UInt8 × Nat => [(.slot 5, some (.ptr 14 0)), (.box 14, some (.ptr 14 0)), (.cell 14 0, some (.d (.sc (.string (B x.2.1))))), (.cell 14 1, some (.d (.sc (.int .i64 (x.2.2 : Int))))), (.slot 6, some (.own 6 6 (x.1.map wordD))), (.tip 6, some (.ptr 6 0))]) (fun x : List Wd × List UInt8 × Nat => Stops x.2.1 ∧ x.2.2 + x.2.1.length ≤ s.length ∧ x.1.length + x.2.1.length ≤ s.length ∧ W s 0 = words_app x.1 (W x.2.1 x.2.2)) (fun x : List Wd × List UInt8 × Nat => x.2.1.length) ([], t0, n0) ⟨hst0, by simpa using hb0.2, by simpa using hb0.1, words_first h0⟩ ⟨rfl, rfl, rfl, rfl, rfl, rfl, trivial⟩ rfl ?_
  intro x hx
  obtain ⟨l, t, m⟩ := x
  obtain ⟨hst, hmt, hlt0, hJ⟩ := hx
  change Stops t at hst
  change m + t.length ≤ s.length at hmt
  change l.length + t.length ≤ s.length at hlt0
  change W s 0 = words_app l (W t m) at hJ
  change Hits _ [(.slot 5, some (.ptr 14 0)), (.box 14, some (.ptr 14 0)), (.cell 14 0, some (.d (.sc (.string (B t))))), (.cell 14 1, some (.d (.sc (.int .i64 (m : Int))))), (.slot 6, some (.own 6 6 (l.map wordD))), (.tip 6, some (.ptr 6 0))] _
  have hll : (l.map wordD).length = l.length := List.length_map _
  refine hits_seq ?_
  refine hits_seq ?_
  rcases t with _ | ⟨c, r⟩
  · have hfin : W s 0 = .inr l := by rw [hJ, W_nil rfl]; simp [words_app]
    refine hits_region ?_
    refine sq (f_move rfl (lt rfl)) rfl rfl ?_
    refine sq (f_nil rfl rfl (lt rfl)) rfl rfl ?_
    refine sq (f_fieldAddr rfl kf52_0 rfl (lt rfl)) rfl rfl ?_
    refine sq (f_load kd9 rfl rfl (lt rfl)) rfl rfl ?_
    refine sq (f_bin rfl rfl (bT ((by rw [show ((⟨#[]⟩ : ByteArray).toList) = (B []).toList from rfl, B_beq]; rfl : _ = false))) (lt rfl)) rfl rfl ?_
    refine hits_nil ?_
    refine to_next ?_
    refine hits_cond rfl (fun c1 => absurd c1 Bool.false_ne_true) (fun c1 => ?_)
    refine hits_exit ?_
    refine to_exit ?_
    refine to_exit ?_
    refine in_hit rfl ?_
    refine to_next ?_
    refine hits_seq ?_
    refine hits_region ?_
    refine sq (f_move rfl (lt rfl)) rfl rfl ?_
    refine sq (f_assign rfl (lt rfl)) rfl rfl ?_
    refine sq (f_assign rfl (lt rfl)) rfl rfl ?_
    refine sq (f_assign rfl (lt rfl)) rfl rfl ?_
    refine hits_nil ?_
    refine to_next ?_
    refine hits_ret ?_
    exact hits_done (.inl rfl) rfl rfl (by rw [hfin]; rfl)
  · have hw := word_c (c := c) (r := r) (ln := (m : Int)) (by omega)
    cases hok : wordOk (c :: r)
    · rw [hok] at hw
      have hfin : W s 0 = .inl m := by rw [hJ, W_none (skip_stop m hst) (by simp) (by rw [word_is, hok]; rfl)]; rfl
      refine hits_region ?_
      refine sq (f_move rfl (lt rfl)) rfl rfl ?_
      refine sq (f_nil rfl rfl (lt rfl)) rfl rfl ?_
      refine sq (f_fieldAddr rfl kf52_0 rfl (lt rfl)) rfl rfl ?_
      refine sq (f_load kd9 rfl rfl (lt rfl)) rfl rfl ?_
      refine sq (f_bin rfl rfl (bT ((by rw [show ((⟨#[]⟩ : ByteArray).toList) = (B []).toList from rfl, B_beq]; rfl : _ = true))) (lt rfl)) rfl rfl ?_
      refine hits_nil ?_
      refine to_next ?_
      refine hits_cond rfl (fun c1 => ?_) (fun c1 => absurd c1 Bool.false_ne_true.symm)
      refine hits_skip ?_
      refine to_next ?_
      refine hits_seq ?_
      refine hits_block ?_
      refine hits_seq ?_
      refine hits_region ?_
      refine sq (f_move rfl (lt rfl)) rfl rfl ?_
      refine sq_callB en12 rfl rfl (hw) ⟨rfl, rfl, trivial⟩ rfl rfl rfl rfl (lt rfl) ?_
      refine sq (f_move rfl (lt rfl)) rfl rfl ?_
      refine sq (f_extract rfl rfl (lt rfl)) rfl rfl ?_
      refine sq (f_extract rfl rfl (lt rfl)) rfl rfl ?_
      refine sq (f_alloc zc37 (lt rfl)) rfl rfl ?_
      refine sq (f_store kd37 rfl rfl rfl rfl rfl) rfl rfl ?_
      refine sq (f_assign rfl (lt rfl)) rfl rfl ?_
      refine hits_nil ?_
      refine to_next ?_
      refine hits_seq ?_
      refine hits_seq ?_
      refine hits_region ?_
      refine sq (f_move rfl (lt rfl)) rfl rfl ?_
      refine sq (f_un rfl rfl (lt rfl)) rfl rfl ?_
      refine hits_nil ?_
      refine to_next ?_
      refine hits_cond rfl (fun c2 => ?_) (fun c2 => absurd c2 Bool.false_ne_true.symm)
      refine hits_seq ?_
      refine hits_drawn mixed ?_
      refine dq (f_move rfl (lt rfl)) rfl rfl ?_
      refine dq (f_nil rfl rfl (lt rfl)) rfl rfl ?_
      refine dq (f_fieldAddr rfl kf52_1 rfl (lt rfl)) rfl rfl ?_
      refine dq (f_load kd3 rfl rfl (lt rfl)) rfl rfl ?_
      refine dq (f_assign rfl (lt rfl)) rfl rfl ?_
      refine dq (f_assign rfl (lt rfl)) rfl rfl ?_
      refine dq (f_assign rfl (lt rfl)) rfl rfl ?_
      refine dq_nil rfl ?_
      refine to_next ?_
      refine hits_ret ?_
      refine to_ret ?_
      refine in_ret ?_
      refine to_ret ?_
      refine to_ret ?_
      refine in_ret ?_
      refine to_ret ?_
      refine hits_own 2 2 6 rfl ?_
      exact hits_done (.inl rfl) rfl rfl (by rw [hfin]; rfl)
    · rw [hok] at hw
      have hwd : word (c :: r) = some (wordW (c :: r), wordT (c :: r)) := by rw [word_is, hok]; rfl
      have hlt := word_lt hwd
      obtain ⟨t2, n2, h2⟩ : ∃ t n, skip false (wordT (c :: r)) m = (t, n) := ⟨_, _, rfl⟩
      have hb2 := skip_cnt h2
      have hst2 := skip_stops false (wordT (c :: r)) m
      rw [h2] at hst2
      have hJ2 := words_step (l := l) (skip_stop m hst) hwd h2 hJ
      refine hits_region ?_
      refine sq (f_move rfl (lt rfl)) rfl rfl ?_
      refine sq (f_nil rfl rfl (lt rfl)) rfl rfl ?_
      refine sq (f_fieldAddr rfl kf52_0 rfl (lt rfl)) rfl rfl ?_
      refine sq (f_load kd9 rfl rfl (lt rfl)) rfl rfl ?_
      refine sq (f_bin rfl rfl (bT ((by rw [show ((⟨#[]⟩ : ByteArray).toList) = (B []).toList from rfl, B_beq]; rfl : _ = true))) (lt rfl)) rfl rfl ?_
      refine hits_nil ?_
      refine to_next ?_
      refine hits_cond rfl (fun c1 => ?_) (fun c1 => absurd c1 Bool.false_ne_true.symm)
      refine hits_skip ?_
      refine to_next ?_
      refine hits_seq ?_
      refine hits_block ?_
      refine hits_seq ?_
      refine hits_region ?_
      refine sq (f_move rfl (lt rfl)) rfl rfl ?_
      refine sq_callB en12 rfl rfl (hw) ⟨rfl, rfl, trivial⟩ rfl rfl rfl rfl (lt rfl) ?_
      refine sq (f_move rfl (lt rfl)) rfl rfl ?_
      refine sq (f_extract rfl rfl (lt rfl)) rfl rfl ?_
      refine sq (f_extract rfl rfl (lt rfl)) rfl rfl ?_
      refine sq (f_alloc zc37 (lt rfl)) rfl rfl ?_
      refine sq (f_store kd37 rfl rfl rfl rfl rfl) rfl rfl ?_
      refine sq (f_assign rfl (lt rfl)) rfl rfl ?_
      refine hits_nil ?_
      refine to_next ?_
      refine hits_seq ?_
      refine hits_seq ?_
      refine hits_region ?_
      refine sq (f_move rfl (lt rfl)) rfl rfl ?_
      refine sq (f_un rfl rfl (lt rfl)) rfl rfl ?_
      refine hits_nil ?_
      refine to_next ?_
      refine hits_cond rfl (fun c2 => absurd c2 Bool.false_ne_true) (fun c2 => ?_)
      refine hits_skip ?_
      refine to_next ?_
      refine hits_seq ?_
      refine hits_region ?_
      refine sq (f_move rfl (lt rfl)) rfl rfl ?_
      refine sq (f_nil rfl rfl (lt rfl)) rfl rfl ?_
      refine sq (f_fieldAddr rfl kf52_1 rfl (lt rfl)) rfl rfl ?_
      refine sq (f_load kd3 rfl rfl (lt rfl)) rfl rfl ?_
      refine sq (f_fieldAddr rfl kf37_3 rfl (lt rfl)) rfl rfl ?_
      refine sq (f_store kd3 rfl rfl rfl rfl rfl) rfl rfl ?_
      refine hits_nil ?_
      refine to_next ?_
      refine hits_region ?_
      refine sq (f_move rfl (lt rfl)) rfl rfl ?_
      refine sq (f_load kd37 rfl rfl (lt rfl)) rfl rfl ?_
      refine sq (f_buildSlice sk22 rfl rfl rfl rfl rfl rfl (by decide) (by decide) (lt rfl)) rfl rfl ?_
      refine sq_append rfl rfl rfl rfl apk22 (by rw [List.length_map]; simp only [snds, List.length_cons, List.length_nil]; omega) (by rw [List.length_map]; simp only [snds, List.length_cons, List.length_nil]; omega) rfl (lt rfl) ?_
      refine sq (f_assign rfl (lt rfl)) rfl rfl ?_
      refine hits_nil ?_
      refine in_next ?_
      refine to_next ?_
      refine hits_region ?_
      refine sq (f_move rfl (lt rfl)) rfl rfl ?_
      refine sq_callB en11 rfl rfl (skip_c gs_lw (n := m) (by omega) (by omega) h2) ⟨rfl, rfl, trivial⟩ rfl rfl rfl rfl (lt rfl) ?_
      refine hits_nil ?_
      refine to_next ?_
      refine round_end (l ++ [({ wordW (c :: r) with ln := m } : Wd)], t2, n2) ⟨hst2, by simp only; omega, by simp only [List.length_append, List.length_cons, List.length_nil] at *; omega, hJ2⟩ (by simp only [List.length_cons] at *; omega) ⟨rfl, rfl, rfl, rfl, (by show _ = some (V.own 6 6 (List.map wordD (l ++ [({ wordW (c :: r) with ln := m } : Wd)]))); rw [List.map_append]; rfl), rfl, trivial⟩ rfl
end Go.Proofs.YtbgeejmhkmjfdaaGreatDoor.Ln
