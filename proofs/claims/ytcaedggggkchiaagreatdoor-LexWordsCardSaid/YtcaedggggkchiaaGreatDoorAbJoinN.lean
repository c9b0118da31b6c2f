/- lex.Words over data, handing back a list of its own. -/
import Derived.Test.YtcaedggggkchiaaGreatDoorAbLaw7
import Derived.Test.YtcaedggggkchiaaGreatDoorAbHeap
namespace Go.Proofs.YtcaedggggkchiaaGreatDoor.Ln
open Go Go.RowKit Go.Ab Go.Proofs 
set_option linter.unusedVariables false
set_option linter.unusedSimpArgs false
theorem en22 : enters Tryz.prog 22 = true := by kernel_rfl

theorem cat_ok (a b : List UInt8) (h : a.length + b.length ≤ 9223372036854775807) : (B a).size + (B b).size ≤ 9223372036854775807 := by rw [B_size, B_size]; exact h

/-! ### Words as cells -/
def wvals (x : Wd) : List Value := [.int .u8 (x.k : Int), .string (B x.s), .int .i64 (x.w : Int), .int .u64 (x.hi : Int), .int .u64 (x.lo : Int), .int .i64 (x.ln : Int)]
theorem flat_cons (x : Wd) (l : List Wd) : flat ((x :: l).map wordD) = (wvals x).map D.sc ++ flat (l.map wordD) := rfl
theorem flat_plain : ∀ l : List Wd, plainVs (flat (l.map wordD)) = some (l.flatMap wvals)
  | [] => rfl
  | x :: l => by
    rw [flat_cons, List.flatMap_cons]
    simp only [wvals, List.map_cons, List.map_nil, List.cons_append, List.nil_append, plainVs, plainV, flat_plain l]
theorem flat_len : ∀ l : List Wd, (flat (l.map wordD)).length = l.length * 6
  | [] => rfl
  | x :: l => by
    rw [flat_cons, List.length_append, flat_len l]
    simp only [wvals, List.length_map, List.length_cons, List.length_nil]; omega
theorem flat_one (l : List Wd) : ((flat (l.map wordD)).all fun q => (V.d q).one) = true := by
  induction l with
  | nil => rfl
  | cons x l ih => rw [flat_cons, List.all_append, ih]; rfl
theorem wordD_six (l : List Wd) : ∀ q ∈ l.map wordD, q.cells.length = 6 := by
  intro q hq
  obtain ⟨x, _, rfl⟩ := List.mem_map.mp hq
  rfl
def contW (l : List Wd) : List V := (flat (l.map wordD)).map V.d
theorem contW_len (l : List Wd) : (contW l).length = l.length * 6 := by rw [contW, List.length_map, flat_len]
theorem contW_cons (x : Wd) (l : List Wd) : contW (x :: l) = (wvals x).map (fun v => V.d (D.sc v)) ++ contW l := rfl
theorem contW_get : ∀ {l : List Wd} {i : Nat} {x : Wd}, l[i]? = some x → (contW l)[i * 6 + 5]? = some (.d (.sc (.int .i64 (x.ln : Int))))
  | [], i, x, h => by simp at h
  | y :: l, 0, x, h => by simp at h; subst h; rfl
  | y :: l, i + 1, x, h => by
    rw [contW_cons, List.getElem?_append_right (by simp [wvals]; omega), show (i + 1) * 6 + 5 - ((wvals y).map (fun v => V.d (D.sc v))).length = i * 6 + 5 from by simp [wvals]; omega]
    exact contW_get (by simpa using h)
theorem contW_set : ∀ {l : List Wd} {i : Nat} {x : Wd} (n : Nat), l[i]? = some x → (contW l).set (i * 6 + 5) (.d (.sc (.int .i64 (n : Int)))) = contW (l.set i { x with ln := n })
  | [], i, x, n, h => by simp at h
  | y :: l, 0, x, n, h => by simp at h; subst h; rfl
  | y :: l, i + 1, x, n, h => by
    rw [contW_cons, List.set_append_right _ _ (by simp [wvals]; omega), show (i + 1) * 6 + 5 - ((wvals y).map (fun v => V.d (D.sc v))).length = i * 6 + 5 from by simp [wvals]; omega, contW_set n (by simpa using h)]
    rfl
/-! ### A row whose lines are moved, so far -/
def addLn (k : Nat) (x : Wd) : Wd := { x with ln := x.ln + k }
def mixL (l : List Wd) (i k : Nat) : List Wd := (l.take i).map (addLn k) ++ l.drop i
theorem mix_0 (l : List Wd) (k : Nat) : mixL l 0 k = l := rfl
theorem mix_len (l : List Wd) (i k : Nat) : (mixL l i k).length = l.length := by
  unfold mixL
  rw [List.length_append, List.length_map, List.length_take, List.length_drop]; omega
theorem mix_at {l : List Wd} {i k : Nat} {x : Wd} (h : l[i]? = some x) : (mixL l i k)[i]? = some x := by
  have hi : i < l.length := (List.getElem?_eq_some_iff.mp h).1
  unfold mixL
  rw [List.getElem?_append_right (by rw [List.length_map, List.length_take]; omega), List.length_map, List.length_take, Nat.min_eq_left (Nat.le_of_lt hi), Nat.sub_self, List.getElem?_drop, Nat.add_zero]
  exact h
theorem mix_set {l : List Wd} {i k : Nat} {x : Wd} (h : l[i]? = some x) : (mixL l i k).set i (addLn k x) = mixL l (i + 1) k := by
  have hi : i < l.length := (List.getElem?_eq_some_iff.mp h).1
  unfold mixL
  rw [List.set_append_right _ _ (by rw [List.length_map, List.length_take]; omega), List.length_map, List.length_take, Nat.min_eq_left (Nat.le_of_lt hi), Nat.sub_self, take_succ h, List.map_append, List.append_assoc, List.drop_eq_getElem_cons hi]
  rfl
theorem mix_end {l : List Wd} {i k : Nat} (h : l.length ≤ i) : mixL l i k = l.map (addLn k) := by
  unfold mixL
  rw [List.take_of_length_le h, List.drop_eq_nil_of_le h, List.append_nil]
theorem cont_step {l : List Wd} {i k : Nat} {x : Wd} (h : l[i]? = some x) : (contW (mixL l i k)).set (i * 6 + 5) (.d (.sc (.int .i64 ((x.ln + k : Nat) : Int)))) = contW (mixL l (i + 1) k) := by
  rw [contW_set (x.ln + k) (mix_at h), show ({ x with ln := x.ln + k } : Wd) = addLn k x from rfl, mix_set h]
/-! ### Two texts, one line after the other -/
theorem join_1 {a b : List UInt8} {e : Nat} (h : W a 0 = .inl e) : W ((a ++ [10]) ++ b) 0 = .inl e := by
  rw [show (a ++ [10]) ++ b = a ++ 10 :: b from by simp, W_join b (a.length + 1) a 0 (Nat.lt_succ_self _), h]
theorem join_2 {a b : List UInt8} {la : List Wd} {e : Nat} (h : W a 0 = .inr la) (h2 : W b 0 = .inl e) : W ((a ++ [10]) ++ b) 0 = .inl (e + (1 + a.count 10)) := by
  rw [show (a ++ [10]) ++ b = a ++ 10 :: b from by simp, W_join b (a.length + 1) a 0 (Nat.lt_succ_self _), h]
  simp only
  rw [show 0 + a.count 10 + 1 = 0 + (1 + a.count 10) from by omega, W_add (b.length + 1) b 0 _ (Nat.lt_succ_self _), h2]
theorem join_3 {a b : List UInt8} {la lb : List Wd} (h : W a 0 = .inr la) (h2 : W b 0 = .inr lb) : W ((a ++ [10]) ++ b) 0 = .inr (la ++ lb.map (addLn (1 + a.count 10))) := by
  rw [show (a ++ [10]) ++ b = a ++ 10 :: b from by simp, W_join b (a.length + 1) a 0 (Nat.lt_succ_self _), h]
  simp only
  rw [show 0 + a.count 10 + 1 = 0 + (1 + a.count 10) from by omega, W_add (b.length + 1) b 0 _ (Nat.lt_succ_self _), h2]
  rfl
theorem cnt_step {a : List UInt8} {i : Nat} {c : UInt8} (h : a[i]? = some c) : (a.take (i + 1)).count 10 = (a.take i).count 10 + if c = 10 then 1 else 0 := by
  rw [List.take_add_one, h, List.count_append]
  by_cases hc : c = 10
  · subst hc; rfl
  · rw [if_neg hc]
    show _ + List.count 10 [c] = _
    rw [List.count_singleton, if_neg (by simpa using hc)]
theorem byte_ne {c : UInt8} (h : ¬ c = 10) : ¬ ((c.toNat : Int) = 10) := fun e => h (UInt8.toNat_inj.mp (by show c.toNat = 10; omega))

set_option maxRecDepth 100000 in
theorem words_n (s : List UInt8) (hs : s.length ≤ 65536) {la : List Wd} (hW : W s 0 = .inr la) : CallsN Tryz.prog Lw 18 [.sc (.string (B s))] 6 la.length (la.flatMap wvals) [.int .i64 0, .int .i64 0] := by
  obtain ⟨t0, n0, h0⟩ : ∃ t n, skip false s 0 = (t, n) := ⟨_, _, rfl⟩
  have hb0 := skip_cnt h0
  have hst0 := skip_stops false s 0
  rw [h0] at hst0
  refine callsN_of gs_lw Tryz.func18 rfl Tryz.ntmps18 rfl fun w0 S0 stab => ?_
  refine hits_seq ?_
  refine hits_region ?_
  refine sq (f_assign rfl (lt rfl)) rfl rfl ?_
  refine sq (f_assign rfl (lt rfl)) rfl rfl ?_
  refine sq (f_assign rfl (lt rfl)) rfl rfl ?_
  refine hits_nil ?_
  refine to_next ?_
  refine hits_seq ?_
  refine hits_seq ?_
  refine hits_region ?_
  refine sq (f_move rfl (lt rfl)) rfl rfl ?_
  refine sq (f_lenStr rfl un9 (lt rfl)) rfl rfl ?_
  refine sq (f_bin rfl rfl (bT (decide_eq_false (by rw [B_size]; omega))) (lt rfl)) rfl rfl ?_
  refine hits_nil ?_
  refine to_next ?_
  refine hits_cond rfl (fun c0 => absurd c0 Bool.false_ne_true) (fun c0 => ?_)
  refine hits_skip ?_
  refine to_next ?_
  refine hits_seq ?_
  refine hits_region ?_
  refine sq (f_move rfl (lt rfl)) rfl rfl ?_
  refine sq (f_build bu97 rfl rfl (lt rfl)) rfl rfl ?_
  refine sq (f_box rfl rfl (lt rfl)) rfl rfl ?_
  refine sq (f_assign rfl (lt rfl)) rfl rfl ?_
  refine hits_nil ?_
  refine to_next ?_
  refine hits_seq ?_
  refine hits_region ?_
  refine sq (f_assign rfl (lt rfl)) rfl rfl ?_
  refine hits_nil ?_
  refine to_next ?_
  refine hits_seq ?_
  refine hits_seq ?_
  refine hits_region ?_
  refine sq (f_move rfl (lt rfl)) rfl rfl ?_
  refine sq_callB en124 rfl rfl (skip_c gs_lw (n := 0) (by omega) (by omega) h0) ⟨rfl, rfl, trivial⟩ rfl rfl rfl rfl (lt rfl) ?_
  refine hits_nil ?_
  refine to_next ?_
  refine hits_block ?_
  refine hits_own 6 6 6 rfl ?_
  refine hits_loop (fun x : List Wd × List UInt8 × Nat => [(.slot 5, some (.ptr 14 0)), (.box 14, some (.ptr 14 0)), (.cell 14 0, some (.d (.sc (.string (B x.2.1))))), (.cell 14 1, some (.d (.sc (.int .i64 (x.2.2 : Int))))), (.slot 6, some (.own 6 6 (x.1.map wordD))), (.tip 6, some (.ptr 6 0))]) (fun x : List Wd × List UInt8 × Nat => Stops x.2.1 ∧ x.2.2 + x.2.1.length ≤ s.length ∧ x.1.length + x.2.1.length ≤ s.length ∧ W s 0 = words_app x.1 (W x.2.1 x.2.2)) (fun x : List Wd × List UInt8 × Nat => x.2.1.length) ([], t0, n0) ⟨hst0, by simpa using hb0.2, by simpa using hb0.1, words_first h0⟩ ⟨rfl, rfl, rfl, rfl, rfl, rfl, trivial⟩ rfl ?_
  intro x hx
  obtain ⟨l, t, m⟩ := x
  obtain ⟨hst, hmt, hlt0, hJ⟩ := hx
  change Stops t at hst
  change m + t.length ≤ s.length at hmt
  change l.length + t.length ≤ s.length at hlt0
  change W s 0 = words_app l (W t m) at hJ
  change Hits _ [(.slot 5, some (.ptr 14 0)), (.box 14, some (.ptr 14 0)), (.cell 14 0, some (.d (.sc (.string (B t))))), (.cell 14 1, some (.d (.sc (.int .i64 (m : Int))))), (.slot 6, some (.own 6 6 (l.map wordD))), (.tip 6, some (.ptr 6 0))] _
  have hll : (l.map wordD).length = l.length := List.length_map _
  refine hits_seq ?_
  refine hits_seq ?_
  rcases t with _ | ⟨c, r⟩
  · have hfin : W s 0 = .inr l := by rw [hJ, W_nil rfl]; simp [words_app]
    refine hits_region ?_
    refine sq (f_move rfl (lt rfl)) rfl rfl ?_
    refine sq (f_nil rfl rfl (lt rfl)) rfl rfl ?_
    refine sq (f_fieldAddr rfl kf97_0 rfl (lt rfl)) rfl rfl ?_
    refine sq (f_load kd9 rfl rfl (lt rfl)) rfl rfl ?_
    refine sq (f_bin rfl rfl (bT ((by rw [show ((⟨#[]⟩ : ByteArray).toList) = (B []).toList from rfl, B_beq]; rfl : _ = false))) (lt rfl)) rfl rfl ?_
    refine hits_nil ?_
    refine to_next ?_
    refine hits_cond rfl (fun c1 => absurd c1 Bool.false_ne_true) (fun c1 => ?_)
    refine hits_exit ?_
    refine to_exit ?_
    refine to_exit ?_
    refine in_hit rfl ?_
    refine to_next ?_
    refine hits_seq ?_
    refine hits_region ?_
    refine sq (f_move rfl (lt rfl)) rfl rfl ?_
    refine sq (f_assign rfl (lt rfl)) rfl rfl ?_
    refine sq (f_assign rfl (lt rfl)) rfl rfl ?_
    refine sq (f_assign rfl (lt rfl)) rfl rfl ?_
    refine hits_nil ?_
    refine to_next ?_
    refine hits_ret ?_
    obtain rfl : la = l := Sum.inr.inj (hW.symm.trans hfin)
    exact hits_doneN (.inl rfl) rfl rfl (by simp) rfl rfl rfl rfl (flat_plain _) hll
  · have hw := word_c (c := c) (r := r) (ln := (m : Int)) (by omega)
    cases hok : wordOk (c :: r)
    · rw [hok] at hw
      have hfin : W s 0 = .inl m := by rw [hJ, W_none (skip_stop m hst) (by simp) (by rw [word_is, hok]; rfl)]; rfl
      refine hits_region ?_
      refine sq (f_move rfl (lt rfl)) rfl rfl ?_
      refine sq (f_nil rfl rfl (lt rfl)) rfl rfl ?_
      refine sq (f_fieldAddr rfl kf97_0 rfl (lt rfl)) rfl rfl ?_
      refine sq (f_load kd9 rfl rfl (lt rfl)) rfl rfl ?_
      refine sq (f_bin rfl rfl (bT ((by rw [show ((⟨#[]⟩ : ByteArray).toList) = (B []).toList from rfl, B_beq]; rfl : _ = true))) (lt rfl)) rfl rfl ?_
      refine hits_nil ?_
      refine to_next ?_
      refine hits_cond rfl (fun c1 => ?_) (fun c1 => absurd c1 Bool.false_ne_true.symm)
      refine hits_skip ?_
      refine to_next ?_
      refine hits_seq ?_
      refine hits_block ?_
      refine hits_seq ?_
      refine hits_region ?_
      refine sq (f_move rfl (lt rfl)) rfl rfl ?_
      refine sq_callB en125 rfl rfl (hw) ⟨rfl, rfl, trivial⟩ rfl rfl rfl rfl (lt rfl) ?_
      refine sq (f_move rfl (lt rfl)) rfl rfl ?_
      refine sq (f_extract rfl rfl (lt rfl)) rfl rfl ?_
      refine sq (f_extract rfl rfl (lt rfl)) rfl rfl ?_
      refine sq (f_alloc zc77 (lt rfl)) rfl rfl ?_
      refine sq (f_store kd77 rfl rfl rfl rfl rfl) rfl rfl ?_
      refine sq (f_assign rfl (lt rfl)) rfl rfl ?_
      refine hits_nil ?_
      refine to_next ?_
      refine hits_seq ?_
      refine hits_seq ?_
      refine hits_region ?_
      refine sq (f_move rfl (lt rfl)) rfl rfl ?_
      refine sq (f_un rfl rfl (lt rfl)) rfl rfl ?_
      refine hits_nil ?_
      refine to_next ?_
      refine hits_cond rfl (fun c2 => ?_) (fun c2 => absurd c2 Bool.false_ne_true.symm)
      refine hits_seq ?_
      refine hits_drawn mixed ?_
      refine dq (f_move rfl (lt rfl)) rfl rfl ?_
      refine dq (f_nil rfl rfl (lt rfl)) rfl rfl ?_
      refine dq (f_fieldAddr rfl kf97_1 rfl (lt rfl)) rfl rfl ?_
      refine dq (f_load kd3 rfl rfl (lt rfl)) rfl rfl ?_
      refine dq (f_assign rfl (lt rfl)) rfl rfl ?_
      refine dq (f_assign rfl (lt rfl)) rfl rfl ?_
      refine dq (f_assign rfl (lt rfl)) rfl rfl ?_
      refine dq_nil rfl ?_
      refine to_next ?_
      refine hits_ret ?_
      refine to_ret ?_
      refine in_ret ?_
      refine to_ret ?_
      refine to_ret ?_
      refine in_ret ?_
      refine to_ret ?_
      refine hits_own 2 2 6 rfl ?_
      exact absurd (hW.symm.trans hfin) (by simp)
    · rw [hok] at hw
      have hwd : word (c :: r) = some (wordW (c :: r), wordT (c :: r)) := by rw [word_is, hok]; rfl
      have hlt := word_lt hwd
      obtain ⟨t2, n2, h2⟩ : ∃ t n, skip false (wordT (c :: r)) m = (t, n) := ⟨_, _, rfl⟩
      have hb2 := skip_cnt h2
      have hst2 := skip_stops false (wordT (c :: r)) m
      rw [h2] at hst2
      have hJ2 := words_step (l := l) (skip_stop m hst) hwd h2 hJ
      refine hits_region ?_
      refine sq (f_move rfl (lt rfl)) rfl rfl ?_
      refine sq (f_nil rfl rfl (lt rfl)) rfl rfl ?_
      refine sq (f_fieldAddr rfl kf97_0 rfl (lt rfl)) rfl rfl ?_
      refine sq (f_load kd9 rfl rfl (lt rfl)) rfl rfl ?_
      refine sq (f_bin rfl rfl (bT ((by rw [show ((⟨#[]⟩ : ByteArray).toList) = (B []).toList from rfl, B_beq]; rfl : _ = true))) (lt rfl)) rfl rfl ?_
      refine hits_nil ?_
      refine to_next ?_
      refine hits_cond rfl (fun c1 => ?_) (fun c1 => absurd c1 Bool.false_ne_true.symm)
      refine hits_skip ?_
      refine to_next ?_
      refine hits_seq ?_
      refine hits_block ?_
      refine hits_seq ?_
      refine hits_region ?_
      refine sq (f_move rfl (lt rfl)) rfl rfl ?_
      refine sq_callB en125 rfl rfl (hw) ⟨rfl, rfl, trivial⟩ rfl rfl rfl rfl (lt rfl) ?_
      refine sq (f_move rfl (lt rfl)) rfl rfl ?_
      refine sq (f_extract rfl rfl (lt rfl)) rfl rfl ?_
      refine sq (f_extract rfl rfl (lt rfl)) rfl rfl ?_
      refine sq (f_alloc zc77 (lt rfl)) rfl rfl ?_
      refine sq (f_store kd77 rfl rfl rfl rfl rfl) rfl rfl ?_
      refine sq (f_assign rfl (lt rfl)) rfl rfl ?_
      refine hits_nil ?_
      refine to_next ?_
      refine hits_seq ?_
      refine hits_seq ?_
      refine hits_region ?_
      refine sq (f_move rfl (lt rfl)) rfl rfl ?_
      refine sq (f_un rfl rfl (lt rfl)) rfl rfl ?_
      refine hits_nil ?_
      refine to_next ?_
      refine hits_cond rfl (fun c2 => absurd c2 Bool.false_ne_true) (fun c2 => ?_)
      refine hits_skip ?_
      refine to_next ?_
      refine hits_seq ?_
      refine hits_region ?_
      refine sq (f_move rfl (lt rfl)) rfl rfl ?_
      refine sq (f_nil rfl rfl (lt rfl)) rfl rfl ?_
      refine sq (f_fieldAddr rfl kf97_1 rfl (lt rfl)) rfl rfl ?_
      refine sq (f_load kd3 rfl rfl (lt rfl)) rfl rfl ?_
      refine sq (f_fieldAddr rfl kf77_3 rfl (lt rfl)) rfl rfl ?_
      refine sq (f_store kd3 rfl rfl rfl rfl rfl) rfl rfl ?_
      refine hits_nil ?_
      refine to_next ?_
      refine hits_region ?_
      refine sq (f_move rfl (lt rfl)) rfl rfl ?_
      refine sq (f_load kd77 rfl rfl (lt rfl)) rfl rfl ?_
      refine sq (f_buildSlice sk69 rfl rfl rfl rfl rfl rfl (by decide) (by decide) (lt rfl)) rfl rfl ?_
      refine sq_append rfl rfl rfl rfl apk69 (by rw [List.length_map]; simp only [snds, List.length_cons, List.length_nil]; omega) (by rw [List.length_map]; simp only [snds, List.length_cons, List.length_nil]; omega) rfl (lt rfl) ?_
      refine sq (f_assign rfl (lt rfl)) rfl rfl ?_
      refine hits_nil ?_
      refine in_next ?_
      refine to_next ?_
      refine hits_region ?_
      refine sq (f_move rfl (lt rfl)) rfl rfl ?_
      refine sq_callB en124 rfl rfl (skip_c gs_lw (n := m) (by omega) (by omega) h2) ⟨rfl, rfl, trivial⟩ rfl rfl rfl rfl (lt rfl) ?_
      refine hits_nil ?_
      refine to_next ?_
      refine round_end (l ++ [({ wordW (c :: r) with ln := m } : Wd)], t2, n2) ⟨hst2, by simp only; omega, by simp only [List.length_append, List.length_cons, List.length_nil] at *; omega, hJ2⟩ (by simp only [List.length_cons] at *; omega) ⟨rfl, rfl, rfl, rfl, (by show _ = some (V.own 6 6 (List.map wordD (l ++ [({ wordW (c :: r) with ln := m } : Wd)]))); rw [List.map_append]; rfl), rfl, trivial⟩ rfl

end Go.Proofs.YtcaedggggkchiaaGreatDoor.Ln
