/- The law LexJoins over data. -/
import Derived.Test.YtcaedggggkchiaaGreatDoorAbLaw7
import Derived.Test.YtcaedggggkchiaaGreatDoorAbMut
namespace Go.Proofs.YtcaedggggkchiaaGreatDoor.Ln
open Go Go.RowKit Go.Ab Go.Proofs 
set_option linter.unusedVariables false
set_option linter.unusedSimpArgs false
theorem en22 : enters Tryz.prog 22 = true := by kernel_rfl

theorem cat_ok (a b : List UInt8) (h : a.length + b.length ≤ 9223372036854775807) : (B a).size + (B b).size ≤ 9223372036854775807 := by rw [B_size, B_size]; exact h

/-! ### Words as cells -/
def wvals (x : Wd) : List Value := [.int .u8 (x.k : Int), .string (B x.s), .int .i64 (x.w : Int), .int .u64 (x.hi : Int), .int .u64 (x.lo : Int), .int .i64 (x.ln : Int)]
theorem flat_cons (x : Wd) (l : List Wd) : flat ((x :: l).map wordD) = (wvals x).map D.sc ++ flat (l.map wordD) := rfl
theorem flat_plain : ∀ l : List Wd, plainVs (flat (l.map wordD)) = some (l.flatMap wvals)
  | [] => rfl
  | x :: l => by
    rw [flat_cons, List.flatMap_cons]
    simp only [wvals, List.map_cons, List.map_nil, List.cons_append, List.nil_append, plainVs, plainV, flat_plain l]
theorem flat_len : ∀ l : List Wd, (flat (l.map wordD)).length = l.length * 6
  | [] => rfl
  | x :: l => by
    rw [flat_cons, List.length_append, flat_len l]
    simp only [wvals, List.length_map, List.length_cons, List.length_nil]; omega
theorem flat_one (l : List Wd) : ((flat (l.map wordD)).all fun q => (V.d q).one) = true := by
  induction l with
  | nil => rfl
  | cons x l ih => rw [flat_cons, List.all_append, ih]; rfl
theorem wordD_six (l : List Wd) : ∀ q ∈ l.map wordD, q.cells.length = 6 := by
  intro q hq
  obtain ⟨x, _, rfl⟩ := List.mem_map.mp hq
  rfl
def contW (l : List Wd) : List V := (flat (l.map wordD)).map V.d
theorem contW_len (l : List Wd) : (contW l).length = l.length * 6 := by rw [contW, List.length_map, flat_len]
theorem contW_cons (x : Wd) (l : List Wd) : contW (x :: l) = (wvals x).map (fun v => V.d (D.sc v)) ++ contW l := rfl
theorem contW_get : ∀ {l : List Wd} {i : Nat} {x : Wd}, l[i]? = some x → (contW l)[i * 6 + 5]? = some (.d (.sc (.int .i64 (x.ln : Int))))
  | [], i, x, h => by simp at h
  | y :: l, 0, x, h => by simp at h; subst h; rfl
  | y :: l, i + 1, x, h => by
    rw [contW_cons, List.getElem?_append_right (by simp [wvals]; omega), show (i + 1) * 6 + 5 - ((wvals y).map (fun v => V.d (D.sc v))).length = i * 6 + 5 from by simp [wvals]; omega]
    exact contW_get (by simpa using h)
theorem contW_set : ∀ {l : List Wd} {i : Nat} {x : Wd} (n : Nat), l[i]? = some x → (contW l).set (i * 6 + 5) (.d (.sc (.int .i64 (n : Int)))) = contW (l.set i { x with ln := n })
  | [], i, x, n, h => by simp at h
  | y :: l, 0, x, n, h => by simp at h; subst h; rfl
  | y :: l, i + 1, x, n, h => by
    rw [contW_cons, List.set_append_right _ _ (by simp [wvals]; omega), show (i + 1) * 6 + 5 - ((wvals y).map (fun v => V.d (D.sc v))).length = i * 6 + 5 from by simp [wvals]; omega, contW_set n (by simpa using h)]
    rfl
/-! ### A row whose lines are moved, so far -/
def addLn (k : Nat) (x : Wd) : Wd := { x with ln := x.ln + k }
def mixL (l : List Wd) (i k : Nat) : List Wd := (l.take i).map (addLn k) ++ l.drop i
theorem mix_0 (l : List Wd) (k : Nat) : mixL l 0 k = l := rfl
theorem mix_len (l : List Wd) (i k : Nat) : (mixL l i k).length = l.length := by
  unfold mixL
  rw [List.length_append, List.length_map, List.length_take, List.length_drop]; omega
theorem mix_at {l : List Wd} {i k : Nat} {x : Wd} (h : l[i]? = some x) : (mixL l i k)[i]? = some x := by
  have hi : i < l.length := (List.getElem?_eq_some_iff.mp h).1
  unfold mixL
  rw [List.getElem?_append_right (by rw [List.length_map, List.length_take]; omega), List.length_map, List.length_take, Nat.min_eq_left (Nat.le_of_lt hi), Nat.sub_self, List.getElem?_drop, Nat.add_zero]
  exact h
theorem mix_set {l : List Wd} {i k : Nat} {x : Wd} (h : l[i]? = some x) : (mixL l i k).set i (addLn k x) = mixL l (i + 1) k := by
  have hi : i < l.length := (List.getElem?_eq_some_iff.mp h).1
  unfold mixL
  rw [List.set_append_right _ _ (by rw [List.length_map, List.length_take]; omega), List.length_map, List.length_take, Nat.min_eq_left (Nat.le_of_lt hi), Nat.sub_self, take_succ h, List.map_append, List.append_assoc, List.drop_eq_getElem_cons hi]
  rfl
theorem mix_end {l : List Wd} {i k : Nat} (h : l.length ≤ i) : mixL l i k = l.map (addLn k) := by
  unfold mixL
  rw [List.take_of_length_le h, List.drop_eq_nil_of_le h, List.append_nil]
theorem cont_step {l : List Wd} {i k : Nat} {x : Wd} (h : l[i]? = some x) : (contW (mixL l i k)).set (i * 6 + 5) (.d (.sc (.int .i64 ((x.ln + k : Nat) : Int)))) = contW (mixL l (i + 1) k) := by
  rw [contW_set (x.ln + k) (mix_at h), show ({ x with ln := x.ln + k } : Wd) = addLn k x from rfl, mix_set h]
/-! ### Two texts, one line after the other -/
theorem join_1 {a b : List UInt8} {e : Nat} (h : W a 0 = .inl e) : W ((a ++ [10]) ++ b) 0 = .inl e := by
  rw [show (a ++ [10]) ++ b = a ++ 10 :: b from by simp, W_join b (a.length + 1) a 0 (Nat.lt_succ_self _), h]
theorem join_2 {a b : List UInt8} {la : List Wd} {e : Nat} (h : W a 0 = .inr la) (h2 : W b 0 = .inl e) : W ((a ++ [10]) ++ b) 0 = .inl (e + (1 + a.count 10)) := by
  rw [show (a ++ [10]) ++ b = a ++ 10 :: b from by simp, W_join b (a.length + 1) a 0 (Nat.lt_succ_self _), h]
  simp only
  rw [show 0 + a.count 10 + 1 = 0 + (1 + a.count 10) from by omega, W_add (b.length + 1) b 0 _ (Nat.lt_succ_self _), h2]
theorem join_3 {a b : List UInt8} {la lb : List Wd} (h : W a 0 = .inr la) (h2 : W b 0 = .inr lb) : W ((a ++ [10]) ++ b) 0 = .inr (la ++ lb.map (addLn (1 + a.count 10))) := by
  rw [show (a ++ [10]) ++ b = a ++ 10 :: b from by simp, W_join b (a.length + 1) a 0 (Nat.lt_succ_self _), h]
  simp only
  rw [show 0 + a.count 10 + 1 = 0 + (1 + a.count 10) from by omega, W_add (b.length + 1) b 0 _ (Nat.lt_succ_self _), h2]
  rfl
theorem cnt_step {a : List UInt8} {i : Nat} {c : UInt8} (h : a[i]? = some c) : (a.take (i + 1)).count 10 = (a.take i).count 10 + if c = 10 then 1 else 0 := by
  rw [List.take_add_one, h, List.count_append]
  by_cases hc : c = 10
  · subst hc; rfl
  · rw [if_neg hc]
    show _ + List.count 10 [c] = _
    rw [List.count_singleton, if_neg (by simpa using hc)]
theorem byte_ne {c : UInt8} (h : ¬ c = 10) : ¬ ((c.toNat : Int) = 10) := fun e => h (UInt8.toNat_inj.mp (by show c.toNat = 10; omega))

set_option maxRecDepth 100000 in
theorem words_n (s : List UInt8) (hs : s.length ≤ 65536) {la : List Wd} (hW : W s 0 = .inr la) : CallsN Tryz.prog Lw 18 [.sc (.string (B s))] 6 la.length (la.flatMap wvals) [.int .i64 0, .int .i64 0] := by
  obtain ⟨t0, n0, h0⟩ : ∃ t n, skip false s 0 = (t, n) := ⟨_, _, rfl⟩
  have hb0 := skip_cnt h0
  have hst0 := skip_stops false s 0
  rw [h0] at hst0
  refine callsN_of gs_lw Tryz.func18 rfl Tryz.ntmps18 rfl fun w0 S0 stab => ?_
  refine hits_seq ?_
  refine hits_region ?_
  refine sq (f_assign rfl (lt rfl)) rfl rfl ?_
  refine sq (f_assign rfl (lt rfl)) rfl rfl ?_
  refine sq (f_assign rfl (lt rfl)) rfl rfl ?_
  refine hits_nil ?_
  refine to_next ?_
  refine hits_seq ?_
  refine hits_seq ?_
  refine hits_region ?_
  refine sq (f_move rfl (lt rfl)) rfl rfl ?_
  refine sq (f_lenStr rfl un9 (lt rfl)) rfl rfl ?_
  refine sq (f_bin rfl rfl (bT (decide_eq_false (by rw [B_size]; omega))) (lt rfl)) rfl rfl ?_
  refine hits_nil ?_
  refine to_next ?_
  refine hits_cond rfl (fun c0 => ?_) (fun c0 => ?_)
  case refine_1 => exact absurd c0 Bool.false_ne_true
  case refine_2 =>
    refine hits_skip ?_
    refine to_next ?_
    refine hits_seq ?_
    refine hits_region ?_
    refine sq (f_move rfl (lt rfl)) rfl rfl ?_
    refine sq (f_build bu97 rfl rfl (lt rfl)) rfl rfl ?_
    refine sq (f_box rfl rfl (lt rfl)) rfl rfl ?_
    refine sq (f_assign rfl (lt rfl)) rfl rfl ?_
    refine hits_nil ?_
    refine to_next ?_
    refine hits_seq ?_
    refine hits_region ?_
    refine sq (f_assign rfl (lt rfl)) rfl rfl ?_
    refine hits_nil ?_
    refine to_next ?_
    refine hits_seq ?_
    refine hits_seq ?_
    refine hits_region ?_
    refine sq (f_move rfl (lt rfl)) rfl rfl ?_
    refine sq_callB en124 rfl rfl (skip_c gs_lw (n := 0) (by omega) (by omega) h0) ⟨rfl, rfl, trivial⟩ rfl rfl rfl rfl (lt rfl) ?_
    refine hits_nil ?_
    refine to_next ?_
    refine hits_block ?_
    refine hits_own 6 6 6 rfl ?_
    refine hits_loop (fun x : List Wd × List UInt8 × Nat => [(.slot 5, some (.ptr 14 0)), (.box 14, some (.ptr 14 0)), (.cell 14 0, some (.d (.sc (.string (B x.2.1))))), (.cell 14 1, some (.d (.sc (.int .i64 (x.2.2 : Int))))), (.slot 6, some (.own 6 6 (x.1.map wordD))), (.tip 6, some (.ptr 6 0))]) (fun x : List Wd × List UInt8 × Nat => Stops x.2.1 ∧ x.2.2 + x.2.1.length ≤ s.length ∧ x.1.length + x.2.1.length ≤ s.length ∧ W s 0 = words_app x.1 (W x.2.1 x.2.2)) (fun x : List Wd × List UInt8 × Nat => x.2.1.length) ([], t0, n0) ⟨hst0, by simpa using hb0.2, by simpa using hb0.1, words_first h0⟩ ⟨rfl, rfl, rfl, rfl, rfl, rfl, trivial⟩ rfl ?_
    intro x hx
    obtain ⟨l, t, m⟩ := x
    obtain ⟨hst, hmt, hlt0, hJ⟩ := hx
    change Stops t at hst
    change m + t.length ≤ s.length at hmt
    change l.length + t.length ≤ s.length at hlt0
    change W s 0 = words_app l (W t m) at hJ
    change Hits _ [(.slot 5, some (.ptr 14 0)), (.box 14, some (.ptr 14 0)), (.cell 14 0, some (.d (.sc (.string (B t))))), (.cell 14 1, some (.d (.sc (.int .i64 (m : Int))))), (.slot 6, some (.own 6 6 (l.map wordD))), (.tip 6, some (.ptr 6 0))] _
    have hll : (l.map wordD).length = l.length := List.length_map _
    refine hits_seq ?_
    refine hits_seq ?_
    rcases t with _ | ⟨c, r⟩
    · have hfin : W s 0 = .inr l := by rw [hJ, W_nil rfl]; simp [words_app]
      refine hits_region ?_
      refine sq (f_move rfl (lt rfl)) rfl rfl ?_
      refine sq (f_nil rfl rfl (lt rfl)) rfl rfl ?_
      refine sq (f_fieldAddr rfl kf97_0 rfl (lt rfl)) rfl rfl ?_
      refine sq (f_load kd9 rfl rfl (lt rfl)) rfl rfl ?_
      refine sq (f_bin rfl rfl (bT ((by rw [show ((⟨#[]⟩ : ByteArray).toList) = (B []).toList from rfl, B_beq]; rfl : _ = false))) (lt rfl)) rfl rfl ?_
      refine hits_nil ?_
      refine to_next ?_
      refine hits_cond rfl (fun c1 => ?_) (fun c1 => ?_)
      case refine_1 => exact absurd c1 Bool.false_ne_true
      case refine_2 =>
        refine hits_exit ?_
        refine to_exit ?_
        refine to_exit ?_
        refine in_hit rfl ?_
        refine to_next ?_
        refine hits_seq ?_
        refine hits_region ?_
        refine sq (f_move rfl (lt rfl)) rfl rfl ?_
        refine sq (f_assign rfl (lt rfl)) rfl rfl ?_
        refine sq (f_assign rfl (lt rfl)) rfl rfl ?_
        refine sq (f_assign rfl (lt rfl)) rfl rfl ?_
        refine hits_nil ?_
        refine to_next ?_
        refine hits_ret ?_
        obtain rfl : la = l := Sum.inr.inj (hW.symm.trans hfin)
        exact hits_doneN (.inl rfl) rfl rfl (by simp) rfl rfl rfl rfl (flat_plain _) hll
    · have hw := word_c (c := c) (r := r) (ln := (m : Int)) (by omega)
      cases hok : wordOk (c :: r)
      · rw [hok] at hw
        have hfin : W s 0 = .inl m := by rw [hJ, W_none (skip_stop m hst) (by simp) (by rw [word_is, hok]; rfl)]; rfl
        refine hits_region ?_
        refine sq (f_move rfl (lt rfl)) rfl rfl ?_
        refine sq (f_nil rfl rfl (lt rfl)) rfl rfl ?_
        refine sq (f_fieldAddr rfl kf97_0 rfl (lt rfl)) rfl rfl ?_
        refine sq (f_load kd9 rfl rfl (lt rfl)) rfl rfl ?_
        refine sq (f_bin rfl rfl (bT ((by rw [show ((⟨#[]⟩ : ByteArray).toList) = (B []).toList from rfl, B_beq]; rfl : _ = true))) (lt rfl)) rfl rfl ?_
        refine hits_nil ?_
        refine to_next ?_
        refine hits_cond rfl (fun c1 => ?_) (fun c1 => ?_)
        case refine_2 => exact absurd c1 Bool.false_ne_true.symm
        case refine_1 =>
          refine hits_skip ?_
          refine to_next ?_
          refine hits_seq ?_
          refine hits_block ?_
          refine hits_seq ?_
          refine hits_region ?_
          refine sq (f_move rfl (lt rfl)) rfl rfl ?_
          refine sq_callB en125 rfl rfl (hw) ⟨rfl, rfl, trivial⟩ rfl rfl rfl rfl (lt rfl) ?_
          refine sq (f_move rfl (lt rfl)) rfl rfl ?_
          refine sq (f_extract rfl rfl (lt rfl)) rfl rfl ?_
          refine sq (f_extract rfl rfl (lt rfl)) rfl rfl ?_
          refine sq (f_alloc zc77 (lt rfl)) rfl rfl ?_
          refine sq (f_store kd77 rfl rfl rfl rfl rfl) rfl rfl ?_
          refine sq (f_assign rfl (lt rfl)) rfl rfl ?_
          refine hits_nil ?_
          refine to_next ?_
          refine hits_seq ?_
          refine hits_seq ?_
          refine hits_region ?_
          refine sq (f_move rfl (lt rfl)) rfl rfl ?_
          refine sq (f_un rfl rfl (lt rfl)) rfl rfl ?_
          refine hits_nil ?_
          refine to_next ?_
          refine hits_cond rfl (fun c2 => ?_) (fun c2 => ?_)
          case refine_2 => exact absurd c2 Bool.false_ne_true.symm
          case refine_1 =>
            refine hits_seq ?_
            refine hits_drawn mixed ?_
            refine dq (f_move rfl (lt rfl)) rfl rfl ?_
            refine dq (f_nil rfl rfl (lt rfl)) rfl rfl ?_
            refine dq (f_fieldAddr rfl kf97_1 rfl (lt rfl)) rfl rfl ?_
            refine dq (f_load kd3 rfl rfl (lt rfl)) rfl rfl ?_
            refine dq (f_assign rfl (lt rfl)) rfl rfl ?_
            refine dq (f_assign rfl (lt rfl)) rfl rfl ?_
            refine dq (f_assign rfl (lt rfl)) rfl rfl ?_
            refine dq_nil rfl ?_
            refine to_next ?_
            refine hits_ret ?_
            refine to_ret ?_
            refine in_ret ?_
            refine to_ret ?_
            refine to_ret ?_
            refine in_ret ?_
            refine to_ret ?_
            refine hits_own 2 2 6 rfl ?_
            exact absurd (hW.symm.trans hfin) (by simp)
      · rw [hok] at hw
        have hwd : word (c :: r) = some (wordW (c :: r), wordT (c :: r)) := by rw [word_is, hok]; rfl
        have hlt := word_lt hwd
        obtain ⟨t2, n2, h2⟩ : ∃ t n, skip false (wordT (c :: r)) m = (t, n) := ⟨_, _, rfl⟩
        have hb2 := skip_cnt h2
        have hst2 := skip_stops false (wordT (c :: r)) m
        rw [h2] at hst2
        have hJ2 := words_step (l := l) (skip_stop m hst) hwd h2 hJ
        refine hits_region ?_
        refine sq (f_move rfl (lt rfl)) rfl rfl ?_
        refine sq (f_nil rfl rfl (lt rfl)) rfl rfl ?_
        refine sq (f_fieldAddr rfl kf97_0 rfl (lt rfl)) rfl rfl ?_
        refine sq (f_load kd9 rfl rfl (lt rfl)) rfl rfl ?_
        refine sq (f_bin rfl rfl (bT ((by rw [show ((⟨#[]⟩ : ByteArray).toList) = (B []).toList from rfl, B_beq]; rfl : _ = true))) (lt rfl)) rfl rfl ?_
        refine hits_nil ?_
        refine to_next ?_
        refine hits_cond rfl (fun c1 => ?_) (fun c1 => ?_)
        case refine_2 => exact absurd c1 Bool.false_ne_true.symm
        case refine_1 =>
          refine hits_skip ?_
          refine to_next ?_
          refine hits_seq ?_
          refine hits_block ?_
          refine hits_seq ?_
          refine hits_region ?_
          refine sq (f_move rfl (lt rfl)) rfl rfl ?_
          refine sq_callB en125 rfl rfl (hw) ⟨rfl, rfl, trivial⟩ rfl rfl rfl rfl (lt rfl) ?_
          refine sq (f_move rfl (lt rfl)) rfl rfl ?_
          refine sq (f_extract rfl rfl (lt rfl)) rfl rfl ?_
          refine sq (f_extract rfl rfl (lt rfl)) rfl rfl ?_
          refine sq (f_alloc zc77 (lt rfl)) rfl rfl ?_
          refine sq (f_store kd77 rfl rfl rfl rfl rfl) rfl rfl ?_
          refine sq (f_assign rfl (lt rfl)) rfl rfl ?_
          refine hits_nil ?_
          refine to_next ?_
          refine hits_seq ?_
          refine hits_seq ?_
          refine hits_region ?_
          refine sq (f_move rfl (lt rfl)) rfl rfl ?_
          refine sq (f_un rfl rfl (lt rfl)) rfl rfl ?_
          refine hits_nil ?_
          refine to_next ?_
          refine hits_cond rfl (fun c2 => ?_) (fun c2 => ?_)
          case refine_1 => exact absurd c2 Bool.false_ne_true
          case refine_2 =>
            refine hits_skip ?_
            refine to_next ?_
            refine hits_seq ?_
            refine hits_region ?_
            refine sq (f_move rfl (lt rfl)) rfl rfl ?_
            refine sq (f_nil rfl rfl (lt rfl)) rfl rfl ?_
            refine sq (f_fieldAddr rfl kf97_1 rfl (lt rfl)) rfl rfl ?_
            refine sq (f_load kd3 rfl rfl (lt rfl)) rfl rfl ?_
            refine sq (f_fieldAddr rfl kf77_3 rfl (lt rfl)) rfl rfl ?_
            refine sq (f_store kd3 rfl rfl rfl rfl rfl) rfl rfl ?_
            refine hits_nil ?_
            refine to_next ?_
            refine hits_region ?_
            refine sq (f_move rfl (lt rfl)) rfl rfl ?_
            refine sq (f_load kd77 rfl rfl (lt rfl)) rfl rfl ?_
            refine sq (f_buildSlice sk69 rfl rfl rfl rfl rfl rfl (by decide) (by decide) (lt rfl)) rfl rfl ?_
            refine sq_append rfl rfl rfl rfl apk69 (by rw [List.length_map]; simp only [snds, List.length_cons, List.length_nil]; omega) (by rw [List.length_map]; simp only [snds, List.length_cons, List.length_nil]; omega) rfl (lt rfl) ?_
            refine sq (f_assign rfl (lt rfl)) rfl rfl ?_
            refine hits_nil ?_
            refine in_next ?_
            refine to_next ?_
            refine hits_region ?_
            refine sq (f_move rfl (lt rfl)) rfl rfl ?_
            refine sq_callB en124 rfl rfl (skip_c gs_lw (n := m) (by omega) (by omega) h2) ⟨rfl, rfl, trivial⟩ rfl rfl rfl rfl (lt rfl) ?_
            refine hits_nil ?_
            refine to_next ?_
            refine round_end (l ++ [({ wordW (c :: r) with ln := m } : Wd)], t2, n2) ⟨hst2, by simp only; omega, by simp only [List.length_append, List.length_cons, List.length_nil] at *; omega, hJ2⟩ (by simp only [List.length_cons] at *; omega) ⟨rfl, rfl, rfl, rfl, (by show _ = some (V.own 6 6 (List.map wordD (l ++ [({ wordW (c :: r) with ln := m } : Wd)]))); rw [List.map_append]; rfl), rfl, trivial⟩ rfl

set_option maxRecDepth 100000 in
theorem joins_a (a b : List UInt8) (h : 65535 < a.length) : CallsP Tryz.prog Lw 7 [.sc (.string (B a)), .sc (.string (B b))] (.sc (.bool true)) := by
  refine callsP_of gs_lw Tryz.func7 rfl Tryz.ntmps7 rfl fun w0 S0 stab => ?_
  refine hits_seq ?_
  refine hits_region ?_
  refine sq (f_assign rfl (lt rfl)) rfl rfl ?_
  refine hits_nil ?_
  refine to_next ?_
  refine hits_seq ?_
  refine hits_seq ?_
  refine hits_region ?_
  refine sq (f_call en22 rfl alive_c (lt rfl)) rfl rfl ?_
  refine sq (f_un rfl rfl (lt rfl)) rfl rfl ?_
  refine sq (f_move rfl (lt rfl)) rfl rfl ?_
  refine sq_yes (f_move rfl (lt rfl)) rfl rfl rfl rfl (lt rfl) ?_
  refine sq_yes (f_lenStr rfl un9 (lt rfl)) rfl rfl rfl rfl (lt rfl) ?_
  refine sq_yes (f_bin rfl rfl (bT (decide_eq_true (by rw [B_size]; omega))) (lt rfl)) rfl rfl rfl rfl (lt rfl) ?_
  refine sq (f_pick rfl rfl (lt rfl)) rfl rfl ?_
  refine sq (f_move rfl (lt rfl)) rfl rfl ?_
  refine sq_no rfl rfl rfl rfl rfl (lt rfl) (lt rfl) ?_
  refine sq_no rfl rfl rfl rfl rfl (lt rfl) (lt rfl) ?_
  refine sq_no rfl rfl rfl rfl rfl (lt rfl) (lt rfl) ?_
  refine sq (f_pick rfl rfl (lt rfl)) rfl rfl ?_
  refine sq (f_move rfl (lt rfl)) rfl rfl ?_
  refine sq_no rfl rfl rfl rfl rfl (lt rfl) (lt rfl) ?_
  refine sq_no rfl rfl rfl rfl rfl (lt rfl) (lt rfl) ?_
  refine sq_no rfl rfl rfl rfl rfl (lt rfl) (lt rfl) ?_
  refine sq_no rfl rfl rfl rfl rfl (lt rfl) (lt rfl) ?_
  refine sq_no rfl rfl rfl rfl rfl (lt rfl) (lt rfl) ?_
  refine sq_no rfl rfl rfl rfl rfl (lt rfl) (lt rfl) ?_
  refine sq (f_pick rfl rfl (lt rfl)) rfl rfl ?_
  refine hits_nil ?_
  refine to_next ?_
  refine hits_cond rfl (fun c0 => ?_) (fun c0 => ?_)
  case refine_2 => exact absurd c0 Bool.false_ne_true.symm
  case refine_1 =>
    refine hits_seq ?_
    refine hits_region ?_
    refine sq (f_call en22 rfl alive_c (lt rfl)) rfl rfl ?_
    refine sq (f_assign rfl (lt rfl)) rfl rfl ?_
    refine hits_nil ?_
    refine to_next ?_
    refine hits_ret ?_
    refine to_ret ?_
    exact hits_done (.inl rfl) rfl rfl rfl

set_option maxRecDepth 100000 in
theorem joins_b (a b : List UInt8) (h1 : ¬ 65535 < a.length) (h : 65535 < b.length) : CallsP Tryz.prog Lw 7 [.sc (.string (B a)), .sc (.string (B b))] (.sc (.bool true)) := by
  refine callsP_of gs_lw Tryz.func7 rfl Tryz.ntmps7 rfl fun w0 S0 stab => ?_
  refine hits_seq ?_
  refine hits_region ?_
  refine sq (f_assign rfl (lt rfl)) rfl rfl ?_
  refine hits_nil ?_
  refine to_next ?_
  refine hits_seq ?_
  refine hits_seq ?_
  refine hits_region ?_
  refine sq (f_call en22 rfl alive_c (lt rfl)) rfl rfl ?_
  refine sq (f_un rfl rfl (lt rfl)) rfl rfl ?_
  refine sq (f_move rfl (lt rfl)) rfl rfl ?_
  refine sq_yes (f_move rfl (lt rfl)) rfl rfl rfl rfl (lt rfl) ?_
  refine sq_yes (f_lenStr rfl un9 (lt rfl)) rfl rfl rfl rfl (lt rfl) ?_
  refine sq_yes (f_bin rfl rfl (bT (decide_eq_false (by rw [B_size]; omega))) (lt rfl)) rfl rfl rfl rfl (lt rfl) ?_
  refine sq (f_pick rfl rfl (lt rfl)) rfl rfl ?_
  refine sq (f_move rfl (lt rfl)) rfl rfl ?_
  refine sq_yes (f_move rfl (lt rfl)) rfl rfl rfl rfl (lt rfl) ?_
  refine sq_yes (f_lenStr rfl un9 (lt rfl)) rfl rfl rfl rfl (lt rfl) ?_
  refine sq_yes (f_bin rfl rfl (bT (decide_eq_true (by rw [B_size]; omega))) (lt rfl)) rfl rfl rfl rfl (lt rfl) ?_
  refine sq (f_pick rfl rfl (lt rfl)) rfl rfl ?_
  refine sq (f_move rfl (lt rfl)) rfl rfl ?_
  refine sq_no rfl rfl rfl rfl rfl (lt rfl) (lt rfl) ?_
  refine sq_no rfl rfl rfl rfl rfl (lt rfl) (lt rfl) ?_
  refine sq_no rfl rfl rfl rfl rfl (lt rfl) (lt rfl) ?_
  refine sq_no rfl rfl rfl rfl rfl (lt rfl) (lt rfl) ?_
  refine sq_no rfl rfl rfl rfl rfl (lt rfl) (lt rfl) ?_
  refine sq_no rfl rfl rfl rfl rfl (lt rfl) (lt rfl) ?_
  refine sq (f_pick rfl rfl (lt rfl)) rfl rfl ?_
  refine hits_nil ?_
  refine to_next ?_
  refine hits_cond rfl (fun c0 => ?_) (fun c0 => ?_)
  case refine_2 => exact absurd c0 Bool.false_ne_true.symm
  case refine_1 =>
    refine hits_seq ?_
    refine hits_region ?_
    refine sq (f_call en22 rfl alive_c (lt rfl)) rfl rfl ?_
    refine sq (f_assign rfl (lt rfl)) rfl rfl ?_
    refine hits_nil ?_
    refine to_next ?_
    refine hits_ret ?_
    refine to_ret ?_
    exact hits_done (.inl rfl) rfl rfl rfl

set_option maxRecDepth 100000 in
theorem joins_ab (a b : List UInt8) (h1 : ¬ 65535 < a.length) (h2 : ¬ 65535 < b.length) (h : 65535 < a.length + b.length) : CallsP Tryz.prog Lw 7 [.sc (.string (B a)), .sc (.string (B b))] (.sc (.bool true)) := by
  refine callsP_of gs_lw Tryz.func7 rfl Tryz.ntmps7 rfl fun w0 S0 stab => ?_
  refine hits_seq ?_
  refine hits_region ?_
  refine sq (f_assign rfl (lt rfl)) rfl rfl ?_
  refine hits_nil ?_
  refine to_next ?_
  refine hits_seq ?_
  refine hits_seq ?_
  refine hits_region ?_
  refine sq (f_call en22 rfl alive_c (lt rfl)) rfl rfl ?_
  refine sq (f_un rfl rfl (lt rfl)) rfl rfl ?_
  refine sq (f_move rfl (lt rfl)) rfl rfl ?_
  refine sq_yes (f_move rfl (lt rfl)) rfl rfl rfl rfl (lt rfl) ?_
  refine sq_yes (f_lenStr rfl un9 (lt rfl)) rfl rfl rfl rfl (lt rfl) ?_
  refine sq_yes (f_bin rfl rfl (bT (decide_eq_false (by rw [B_size]; omega))) (lt rfl)) rfl rfl rfl rfl (lt rfl) ?_
  refine sq (f_pick rfl rfl (lt rfl)) rfl rfl ?_
  refine sq (f_move rfl (lt rfl)) rfl rfl ?_
  refine sq_yes (f_move rfl (lt rfl)) rfl rfl rfl rfl (lt rfl) ?_
  refine sq_yes (f_lenStr rfl un9 (lt rfl)) rfl rfl rfl rfl (lt rfl) ?_
  refine sq_yes (f_bin rfl rfl (bT (decide_eq_false (by rw [B_size]; omega))) (lt rfl)) rfl rfl rfl rfl (lt rfl) ?_
  refine sq (f_pick rfl rfl (lt rfl)) rfl rfl ?_
  refine sq (f_move rfl (lt rfl)) rfl rfl ?_
  refine sq_yes (f_move rfl (lt rfl)) rfl rfl rfl rfl (lt rfl) ?_
  refine sq_yes (f_lenStr rfl un9 (lt rfl)) rfl rfl rfl rfl (lt rfl) ?_
  refine sq_yes (f_move rfl (lt rfl)) rfl rfl rfl rfl (lt rfl) ?_
  refine sq_yes (f_lenStr rfl un9 (lt rfl)) rfl rfl rfl rfl (lt rfl) ?_
  refine sq_yes (f_bin rfl rfl (iT ((by rw [B_size, B_size]; exact (IntWalk.i64_in _ (by omega)).trans (by omega) : _ = ((a.length + b.length : Nat) : Int)))) (lt rfl)) rfl rfl rfl rfl (lt rfl) ?_
  refine sq_yes (f_bin rfl rfl (bT (decide_eq_true (by omega))) (lt rfl)) rfl rfl rfl rfl (lt rfl) ?_
  refine sq (f_pick rfl rfl (lt rfl)) rfl rfl ?_
  refine hits_nil ?_
  refine to_next ?_
  refine hits_cond rfl (fun c0 => ?_) (fun c0 => ?_)
  case refine_2 => exact absurd c0 Bool.false_ne_true.symm
  case refine_1 =>
    refine hits_seq ?_
    refine hits_region ?_
    refine sq (f_call en22 rfl alive_c (lt rfl)) rfl rfl ?_
    refine sq (f_assign rfl (lt rfl)) rfl rfl ?_
    refine hits_nil ?_
    refine to_next ?_
    refine hits_ret ?_
    refine to_ret ?_
    exact hits_done (.inl rfl) rfl rfl rfl

set_option maxRecDepth 100000 in
theorem joins_1 (a b : List UInt8) (h1 : ¬ 65535 < a.length) (h2 : ¬ 65535 < b.length) (h : ¬ 65535 < a.length + b.length) {e : Nat} (hW : W a 0 = .inl e) : CallsP Tryz.prog Lw 7 [.sc (.string (B a)), .sc (.string (B b))] (.sc (.bool true)) := by
  have hwa := words_c a (by omega)
  have hwb := words_c b (by omega)
  have hwc := words_c ((a ++ [10]) ++ b) (by simp only [List.length_append, List.length_cons, List.length_nil]; omega)
  rw [hW] at hwa
  rw [join_1 hW] at hwc
  obtain ⟨lb, nb, eb, hb⟩ : ∃ lb nb eb, wordsD (W b 0) = .tup [.list 6 lb, .sc (.int .i64 nb), .sc (.int .i64 eb)] := by cases W b 0 <;> exact ⟨_, _, _, rfl⟩
  rw [hb] at hwb
  refine callsP_of gs_lw Tryz.func7 rfl Tryz.ntmps7 rfl fun w0 S0 stab => ?_
  refine hits_seq ?_
  refine hits_region ?_
  refine sq (f_assign rfl (lt rfl)) rfl rfl ?_
  refine hits_nil ?_
  refine to_next ?_
  refine hits_seq ?_
  refine hits_seq ?_
  refine hits_region ?_
  refine sq (f_call en22 rfl alive_c (lt rfl)) rfl rfl ?_
  refine sq (f_un rfl rfl (lt rfl)) rfl rfl ?_
  refine sq (f_move rfl (lt rfl)) rfl rfl ?_
  refine sq_yes (f_move rfl (lt rfl)) rfl rfl rfl rfl (lt rfl) ?_
  refine sq_yes (f_lenStr rfl un9 (lt rfl)) rfl rfl rfl rfl (lt rfl) ?_
  refine sq_yes (f_bin rfl rfl (bT (decide_eq_false (by rw [B_size]; omega))) (lt rfl)) rfl rfl rfl rfl (lt rfl) ?_
  refine sq (f_pick rfl rfl (lt rfl)) rfl rfl ?_
  refine sq (f_move rfl (lt rfl)) rfl rfl ?_
  refine sq_yes (f_move rfl (lt rfl)) rfl rfl rfl rfl (lt rfl) ?_
  refine sq_yes (f_lenStr rfl un9 (lt rfl)) rfl rfl rfl rfl (lt rfl) ?_
  refine sq_yes (f_bin rfl rfl (bT (decide_eq_false (by rw [B_size]; omega))) (lt rfl)) rfl rfl rfl rfl (lt rfl) ?_
  refine sq (f_pick rfl rfl (lt rfl)) rfl rfl ?_
  refine sq (f_move rfl (lt rfl)) rfl rfl ?_
  refine sq_yes (f_move rfl (lt rfl)) rfl rfl rfl rfl (lt rfl) ?_
  refine sq_yes (f_lenStr rfl un9 (lt rfl)) rfl rfl rfl rfl (lt rfl) ?_
  refine sq_yes (f_move rfl (lt rfl)) rfl rfl rfl rfl (lt rfl) ?_
  refine sq_yes (f_lenStr rfl un9 (lt rfl)) rfl rfl rfl rfl (lt rfl) ?_
  refine sq_yes (f_bin rfl rfl (iT ((by rw [B_size, B_size]; exact (IntWalk.i64_in _ (by omega)).trans (by omega) : _ = ((a.length + b.length : Nat) : Int)))) (lt rfl)) rfl rfl rfl rfl (lt rfl) ?_
  refine sq_yes (f_bin rfl rfl (bT (decide_eq_false (by omega))) (lt rfl)) rfl rfl rfl rfl (lt rfl) ?_
  refine sq (f_pick rfl rfl (lt rfl)) rfl rfl ?_
  refine hits_nil ?_
  refine to_next ?_
  refine hits_cond rfl (fun c0 => ?_) (fun c0 => ?_)
  case refine_1 => exact absurd c0 Bool.false_ne_true
  case refine_2 =>
    refine hits_skip ?_
    refine to_next ?_
    refine hits_seq ?_
    refine hits_region ?_
    refine sq (f_move rfl (lt rfl)) rfl rfl ?_
    refine sq (f_call en18 rfl hwa (lt rfl)) rfl rfl ?_
    refine sq (f_move rfl (lt rfl)) rfl rfl ?_
    refine sq (f_extract rfl rfl (lt rfl)) rfl rfl ?_
    refine sq (f_extract rfl rfl (lt rfl)) rfl rfl ?_
    refine sq (f_extract rfl rfl (lt rfl)) rfl rfl ?_
    refine sq (f_assign rfl (lt rfl)) rfl rfl ?_
    refine sq (f_assign rfl (lt rfl)) rfl rfl ?_
    refine sq (f_assign rfl (lt rfl)) rfl rfl ?_
    refine hits_nil ?_
    refine to_next ?_
    refine hits_seq ?_
    refine hits_region ?_
    refine sq (f_move rfl (lt rfl)) rfl rfl ?_
    refine sq (f_call en18 rfl hwb (lt rfl)) rfl rfl ?_
    refine sq (f_move rfl (lt rfl)) rfl rfl ?_
    refine sq (f_extract rfl rfl (lt rfl)) rfl rfl ?_
    refine sq (f_extract rfl rfl (lt rfl)) rfl rfl ?_
    refine sq (f_extract rfl rfl (lt rfl)) rfl rfl ?_
    refine sq (f_assign rfl (lt rfl)) rfl rfl ?_
    refine sq (f_assign rfl (lt rfl)) rfl rfl ?_
    refine sq (f_assign rfl (lt rfl)) rfl rfl ?_
    refine hits_nil ?_
    refine to_next ?_
    refine hits_seq ?_
    refine hits_region ?_
    refine sq (f_move rfl (lt rfl)) rfl rfl ?_
    refine sq (f_catI rfl rfl (cat_ok (a) ([10]) (by (try simp only [List.length_append, List.length_cons, List.length_nil]); omega)) (B_app (a) ([10])) (lt rfl)) rfl rfl ?_
    refine sq (f_move rfl (lt rfl)) rfl rfl ?_
    refine sq (f_catI rfl rfl (cat_ok (a ++ [10]) (b) (by (try simp only [List.length_append, List.length_cons, List.length_nil]); omega)) (B_app (a ++ [10]) (b)) (lt rfl)) rfl rfl ?_
    refine sq (f_call en18 rfl hwc (lt rfl)) rfl rfl ?_
    refine sq (f_move rfl (lt rfl)) rfl rfl ?_
    refine sq (f_extract rfl rfl (lt rfl)) rfl rfl ?_
    refine sq (f_extract rfl rfl (lt rfl)) rfl rfl ?_
    refine sq (f_extract rfl rfl (lt rfl)) rfl rfl ?_
    refine sq (f_assign rfl (lt rfl)) rfl rfl ?_
    refine sq (f_assign rfl (lt rfl)) rfl rfl ?_
    refine sq (f_assign rfl (lt rfl)) rfl rfl ?_
    refine hits_nil ?_
    refine to_next ?_
    refine hits_seq ?_
    refine hits_region ?_
    refine sq (f_assign rfl (lt rfl)) rfl rfl ?_
    refine hits_nil ?_
    refine to_next ?_
    refine hits_seq ?_
    refine hits_seq ?_
    refine hits_region ?_
    refine sq (f_assign rfl (lt rfl)) rfl rfl ?_
    refine hits_nil ?_
    refine to_next ?_
    refine hits_block ?_
    refine hits_loop (fun i : Nat => [(.slot 0, some (.d (.sc (.string (B a))))), (.slot 14, some (.d (.sc (.int .i64 ((1 + (a.take i).count 10 : Nat) : Int))))), (.slot 15, some (.d (.sc (.int .i64 ((i : Nat) : Int))))), (.slot 6, some (.d (.sc (.int .i64 ((e : Nat) : Int))))), (.slot 7, some (.d (.sc (.int .i64 4)))), (.slot 12, some (.d (.sc (.int .i64 ((e : Nat) : Int))))), (.slot 13, some (.d (.sc (.int .i64 4))))]) (fun i : Nat => i ≤ a.length) (fun i : Nat => a.length - i) 0 (Nat.zero_le _) ⟨rfl, rfl, rfl, rfl, rfl, rfl, rfl, trivial⟩ rfl ?_
    intro i hi0
    refine hits_seq ?_
    refine hits_seq ?_
    by_cases hi : i < a.length
    · obtain ⟨c, hat0⟩ : ∃ c, a[i]? = some c := ⟨_, List.getElem?_eq_getElem hi⟩
      have hat : (B a).data.toList[i]? = some c := hat0
      have hst := cnt_step hat0
      have hcl := List.count_le_length (a := (10 : UInt8)) (l := a.take i)
      rw [List.length_take] at hcl
      refine hits_region ?_
      refine sq (f_move rfl (lt rfl)) rfl rfl ?_
      refine sq (f_move rfl (lt rfl)) rfl rfl ?_
      refine sq (f_lenStr rfl un9 (lt rfl)) rfl rfl ?_
      refine sq (f_bin rfl rfl (bT (decide_eq_true (by rw [B_size]; omega))) (lt rfl)) rfl rfl ?_
      refine hits_nil ?_
      refine to_next ?_
      refine hits_cond rfl (fun c1 => ?_) (fun c1 => ?_)
      case refine_2 => exact absurd c1 Bool.false_ne_true.symm
      case refine_1 =>
        refine hits_skip ?_
        refine to_next ?_
        refine hits_seq ?_
        refine hits_block ?_
        refine hits_seq ?_
        by_cases hc : c = 10
        · rw [if_pos hc] at hst
          refine hits_region ?_
          refine sq (f_move rfl (lt rfl)) rfl rfl ?_
          refine sq (f_move rfl (lt rfl)) rfl rfl ?_
          refine sq (f_idxS rfl rfl un9 hat (lt rfl)) rfl rfl ?_
          refine sq (f_bin rfl rfl (bT (beq_iff_eq.mpr (by rw [hc]; rfl))) (lt rfl)) rfl rfl ?_
          refine hits_nil ?_
          refine to_next ?_
          refine hits_cond rfl (fun c2 => ?_) (fun c2 => ?_)
          case refine_2 => exact absurd c2 Bool.false_ne_true.symm
          case refine_1 =>
            refine hits_region ?_
            refine sq (f_move rfl (lt rfl)) rfl rfl ?_
            refine sq (f_bin rfl rfl (iT (((IntWalk.i64_in _ (by omega)).trans (by omega) : _ = ((1 + (a.take (i + 1)).count 10 : Nat) : Int)))) (lt rfl)) rfl rfl ?_
            refine sq (f_assign rfl (lt rfl)) rfl rfl ?_
            refine hits_nil ?_
            refine in_next ?_
            refine to_next ?_
            refine hits_region ?_
            refine sq (f_move rfl (lt rfl)) rfl rfl ?_
            refine sq (f_bin rfl rfl (iT (((IntWalk.i64_in _ (by omega)).trans (by omega) : _ = ((i + 1 : Nat) : Int)))) (lt rfl)) rfl rfl ?_
            refine sq (f_assign rfl (lt rfl)) rfl rfl ?_
            refine hits_nil ?_
            refine to_next ?_
            refine round_end (i + 1) (by omega) (by omega) ⟨rfl, (congrArg (fun n : Nat => some (V.d (D.sc (Value.int .i64 (n : Int))))) rfl), rfl, rfl, rfl, rfl, rfl, trivial⟩ rfl
        · rw [if_neg hc] at hst
          have hst' : 1 + (a.take i).count 10 = 1 + (a.take (i + 1)).count 10 := by omega
          refine hits_region ?_
          refine sq (f_move rfl (lt rfl)) rfl rfl ?_
          refine sq (f_move rfl (lt rfl)) rfl rfl ?_
          refine sq (f_idxS rfl rfl un9 hat (lt rfl)) rfl rfl ?_
          refine sq (f_bin rfl rfl (bT (beq_eq_false_iff_ne.mpr (byte_ne hc))) (lt rfl)) rfl rfl ?_
          refine hits_nil ?_
          refine to_next ?_
          refine hits_cond rfl (fun c2 => ?_) (fun c2 => ?_)
          case refine_1 => exact absurd c2 Bool.false_ne_true
          case refine_2 =>
            refine hits_skip ?_
            refine in_next ?_
            refine to_next ?_
            refine hits_region ?_
            refine sq (f_move rfl (lt rfl)) rfl rfl ?_
            refine sq (f_bin rfl rfl (iT (((IntWalk.i64_in _ (by omega)).trans (by omega) : _ = ((i + 1 : Nat) : Int)))) (lt rfl)) rfl rfl ?_
            refine sq (f_assign rfl (lt rfl)) rfl rfl ?_
            refine hits_nil ?_
            refine to_next ?_
            refine round_end (i + 1) (by omega) (by omega) ⟨rfl, (congrArg (fun n : Nat => some (V.d (D.sc (Value.int .i64 (n : Int))))) hst'), rfl, rfl, rfl, rfl, rfl, trivial⟩ rfl
    · obtain rfl : i = a.length := by omega
      have hct : (a.take a.length).count 10 = a.count 10 := by rw [List.take_length]
      have hcl := List.count_le_length (a := (10 : UInt8)) (l := a)
      refine hits_region ?_
      refine sq (f_move rfl (lt rfl)) rfl rfl ?_
      refine sq (f_move rfl (lt rfl)) rfl rfl ?_
      refine sq (f_lenStr rfl un9 (lt rfl)) rfl rfl ?_
      refine sq (f_bin rfl rfl (bT (decide_eq_false (by rw [B_size]; omega))) (lt rfl)) rfl rfl ?_
      refine hits_nil ?_
      refine to_next ?_
      refine hits_cond rfl (fun c1 => ?_) (fun c1 => ?_)
      case refine_1 => exact absurd c1 Bool.false_ne_true
      case refine_2 =>
        refine hits_exit ?_
        refine to_exit ?_
        refine to_exit ?_
        refine in_hit rfl ?_
        refine to_next ?_
        refine hits_seq ?_
        refine hits_seq ?_
        refine hits_region ?_
        refine sq (f_move rfl (lt rfl)) rfl rfl ?_
        refine sq (f_bin rfl rfl (bT (b' := true) rfl) (lt rfl)) rfl rfl ?_
        refine hits_nil ?_
        refine to_next ?_
        refine hits_cond rfl (fun c3 => ?_) (fun c3 => ?_)
        case refine_2 => exact absurd c3 Bool.false_ne_true.symm
        case refine_1 =>
          refine hits_seq ?_
          refine hits_region ?_
          refine sq (f_move rfl (lt rfl)) rfl rfl ?_
          refine sq (f_move rfl (lt rfl)) rfl rfl ?_
          refine sq (f_bin rfl rfl (bT (b' := true) rfl) (lt rfl)) rfl rfl ?_
          refine sq (f_move rfl (lt rfl)) rfl rfl ?_
          refine sq_yes (f_move rfl (lt rfl)) rfl rfl rfl rfl (lt rfl) ?_
          refine sq_yes (f_move rfl (lt rfl)) rfl rfl rfl rfl (lt rfl) ?_
          refine sq_yes (f_bin rfl rfl (bT ((beq_self_eq_true _))) (lt rfl)) rfl rfl rfl rfl (lt rfl) ?_
          refine sq (f_pick rfl rfl (lt rfl)) rfl rfl ?_
          refine sq (f_assign rfl (lt rfl)) rfl rfl ?_
          refine hits_nil ?_
          refine to_next ?_
          refine hits_ret ?_
          refine to_ret ?_
          exact hits_done (.inl rfl) rfl rfl rfl

set_option maxRecDepth 100000 in
theorem joins_2 (a b : List UInt8) (h1 : ¬ 65535 < a.length) (h2 : ¬ 65535 < b.length) (h : ¬ 65535 < a.length + b.length) {la : List Wd} {e : Nat} (hW : W a 0 = .inr la) (hV : W b 0 = .inl e) : CallsP Tryz.prog Lw 7 [.sc (.string (B a)), .sc (.string (B b))] (.sc (.bool true)) := by
  have hwa := words_c a (by omega)
  have hwb := words_c b (by omega)
  have hwc := words_c ((a ++ [10]) ++ b) (by simp only [List.length_append, List.length_cons, List.length_nil]; omega)
  rw [hW] at hwa
  rw [hV] at hwb
  rw [join_2 hW hV] at hwc
  have hel := W_line_err (b.length + 1) b 0 e (Nat.lt_succ_self _) hV
  have hcb := List.count_le_length (a := (10 : UInt8)) (l := b)
  refine callsP_of gs_lw Tryz.func7 rfl Tryz.ntmps7 rfl fun w0 S0 stab => ?_
  refine hits_seq ?_
  refine hits_region ?_
  refine sq (f_assign rfl (lt rfl)) rfl rfl ?_
  refine hits_nil ?_
  refine to_next ?_
  refine hits_seq ?_
  refine hits_seq ?_
  refine hits_region ?_
  refine sq (f_call en22 rfl alive_c (lt rfl)) rfl rfl ?_
  refine sq (f_un rfl rfl (lt rfl)) rfl rfl ?_
  refine sq (f_move rfl (lt rfl)) rfl rfl ?_
  refine sq_yes (f_move rfl (lt rfl)) rfl rfl rfl rfl (lt rfl) ?_
  refine sq_yes (f_lenStr rfl un9 (lt rfl)) rfl rfl rfl rfl (lt rfl) ?_
  refine sq_yes (f_bin rfl rfl (bT (decide_eq_false (by rw [B_size]; omega))) (lt rfl)) rfl rfl rfl rfl (lt rfl) ?_
  refine sq (f_pick rfl rfl (lt rfl)) rfl rfl ?_
  refine sq (f_move rfl (lt rfl)) rfl rfl ?_
  refine sq_yes (f_move rfl (lt rfl)) rfl rfl rfl rfl (lt rfl) ?_
  refine sq_yes (f_lenStr rfl un9 (lt rfl)) rfl rfl rfl rfl (lt rfl) ?_
  refine sq_yes (f_bin rfl rfl (bT (decide_eq_false (by rw [B_size]; omega))) (lt rfl)) rfl rfl rfl rfl (lt rfl) ?_
  refine sq (f_pick rfl rfl (lt rfl)) rfl rfl ?_
  refine sq (f_move rfl (lt rfl)) rfl rfl ?_
  refine sq_yes (f_move rfl (lt rfl)) rfl rfl rfl rfl (lt rfl) ?_
  refine sq_yes (f_lenStr rfl un9 (lt rfl)) rfl rfl rfl rfl (lt rfl) ?_
  refine sq_yes (f_move rfl (lt rfl)) rfl rfl rfl rfl (lt rfl) ?_
  refine sq_yes (f_lenStr rfl un9 (lt rfl)) rfl rfl rfl rfl (lt rfl) ?_
  refine sq_yes (f_bin rfl rfl (iT ((by rw [B_size, B_size]; exact (IntWalk.i64_in _ (by omega)).trans (by omega) : _ = ((a.length + b.length : Nat) : Int)))) (lt rfl)) rfl rfl rfl rfl (lt rfl) ?_
  refine sq_yes (f_bin rfl rfl (bT (decide_eq_false (by omega))) (lt rfl)) rfl rfl rfl rfl (lt rfl) ?_
  refine sq (f_pick rfl rfl (lt rfl)) rfl rfl ?_
  refine hits_nil ?_
  refine to_next ?_
  refine hits_cond rfl (fun c0 => ?_) (fun c0 => ?_)
  case refine_1 => exact absurd c0 Bool.false_ne_true
  case refine_2 =>
    refine hits_skip ?_
    refine to_next ?_
    refine hits_seq ?_
    refine hits_region ?_
    refine sq (f_move rfl (lt rfl)) rfl rfl ?_
    refine sq (f_call en18 rfl hwa (lt rfl)) rfl rfl ?_
    refine sq (f_move rfl (lt rfl)) rfl rfl ?_
    refine sq (f_extract rfl rfl (lt rfl)) rfl rfl ?_
    refine sq (f_extract rfl rfl (lt rfl)) rfl rfl ?_
    refine sq (f_extract rfl rfl (lt rfl)) rfl rfl ?_
    refine sq (f_assign rfl (lt rfl)) rfl rfl ?_
    refine sq (f_assign rfl (lt rfl)) rfl rfl ?_
    refine sq (f_assign rfl (lt rfl)) rfl rfl ?_
    refine hits_nil ?_
    refine to_next ?_
    refine hits_seq ?_
    refine hits_region ?_
    refine sq (f_move rfl (lt rfl)) rfl rfl ?_
    refine sq (f_call en18 rfl hwb (lt rfl)) rfl rfl ?_
    refine sq (f_move rfl (lt rfl)) rfl rfl ?_
    refine sq (f_extract rfl rfl (lt rfl)) rfl rfl ?_
    refine sq (f_extract rfl rfl (lt rfl)) rfl rfl ?_
    refine sq (f_extract rfl rfl (lt rfl)) rfl rfl ?_
    refine sq (f_assign rfl (lt rfl)) rfl rfl ?_
    refine sq (f_assign rfl (lt rfl)) rfl rfl ?_
    refine sq (f_assign rfl (lt rfl)) rfl rfl ?_
    refine hits_nil ?_
    refine to_next ?_
    refine hits_seq ?_
    refine hits_region ?_
    refine sq (f_move rfl (lt rfl)) rfl rfl ?_
    refine sq (f_catI rfl rfl (cat_ok (a) ([10]) (by (try simp only [List.length_append, List.length_cons, List.length_nil]); omega)) (B_app (a) ([10])) (lt rfl)) rfl rfl ?_
    refine sq (f_move rfl (lt rfl)) rfl rfl ?_
    refine sq (f_catI rfl rfl (cat_ok (a ++ [10]) (b) (by (try simp only [List.length_append, List.length_cons, List.length_nil]); omega)) (B_app (a ++ [10]) (b)) (lt rfl)) rfl rfl ?_
    refine sq (f_call en18 rfl hwc (lt rfl)) rfl rfl ?_
    refine sq (f_move rfl (lt rfl)) rfl rfl ?_
    refine sq (f_extract rfl rfl (lt rfl)) rfl rfl ?_
    refine sq (f_extract rfl rfl (lt rfl)) rfl rfl ?_
    refine sq (f_extract rfl rfl (lt rfl)) rfl rfl ?_
    refine sq (f_assign rfl (lt rfl)) rfl rfl ?_
    refine sq (f_assign rfl (lt rfl)) rfl rfl ?_
    refine sq (f_assign rfl (lt rfl)) rfl rfl ?_
    refine hits_nil ?_
    refine to_next ?_
    refine hits_seq ?_
    refine hits_region ?_
    refine sq (f_assign rfl (lt rfl)) rfl rfl ?_
    refine hits_nil ?_
    refine to_next ?_
    refine hits_seq ?_
    refine hits_seq ?_
    refine hits_region ?_
    refine sq (f_assign rfl (lt rfl)) rfl rfl ?_
    refine hits_nil ?_
    refine to_next ?_
    refine hits_block ?_
    refine hits_loop (fun i : Nat => [(.slot 0, some (.d (.sc (.string (B a))))), (.slot 14, some (.d (.sc (.int .i64 ((1 + (a.take i).count 10 : Nat) : Int))))), (.slot 15, some (.d (.sc (.int .i64 ((i : Nat) : Int))))), (.slot 7, some (.d (.sc (.int .i64 0)))), (.slot 9, some (.d (.sc (.int .i64 ((e : Nat) : Int))))), (.slot 10, some (.d (.sc (.int .i64 4)))), (.slot 12, some (.d (.sc (.int .i64 ((e + (1 + a.count 10) : Nat) : Int))))), (.slot 13, some (.d (.sc (.int .i64 4))))]) (fun i : Nat => i ≤ a.length) (fun i : Nat => a.length - i) 0 (Nat.zero_le _) ⟨rfl, rfl, rfl, rfl, rfl, rfl, rfl, rfl, trivial⟩ rfl ?_
    intro i hi0
    refine hits_seq ?_
    refine hits_seq ?_
    by_cases hi : i < a.length
    · obtain ⟨c, hat0⟩ : ∃ c, a[i]? = some c := ⟨_, List.getElem?_eq_getElem hi⟩
      have hat : (B a).data.toList[i]? = some c := hat0
      have hst := cnt_step hat0
      have hcl := List.count_le_length (a := (10 : UInt8)) (l := a.take i)
      rw [List.length_take] at hcl
      refine hits_region ?_
      refine sq (f_move rfl (lt rfl)) rfl rfl ?_
      refine sq (f_move rfl (lt rfl)) rfl rfl ?_
      refine sq (f_lenStr rfl un9 (lt rfl)) rfl rfl ?_
      refine sq (f_bin rfl rfl (bT (decide_eq_true (by rw [B_size]; omega))) (lt rfl)) rfl rfl ?_
      refine hits_nil ?_
      refine to_next ?_
      refine hits_cond rfl (fun c1 => ?_) (fun c1 => ?_)
      case refine_2 => exact absurd c1 Bool.false_ne_true.symm
      case refine_1 =>
        refine hits_skip ?_
        refine to_next ?_
        refine hits_seq ?_
        refine hits_block ?_
        refine hits_seq ?_
        by_cases hc : c = 10
        · rw [if_pos hc] at hst
          refine hits_region ?_
          refine sq (f_move rfl (lt rfl)) rfl rfl ?_
          refine sq (f_move rfl (lt rfl)) rfl rfl ?_
          refine sq (f_idxS rfl rfl un9 hat (lt rfl)) rfl rfl ?_
          refine sq (f_bin rfl rfl (bT (beq_iff_eq.mpr (by rw [hc]; rfl))) (lt rfl)) rfl rfl ?_
          refine hits_nil ?_
          refine to_next ?_
          refine hits_cond rfl (fun c2 => ?_) (fun c2 => ?_)
          case refine_2 => exact absurd c2 Bool.false_ne_true.symm
          case refine_1 =>
            refine hits_region ?_
            refine sq (f_move rfl (lt rfl)) rfl rfl ?_
            refine sq (f_bin rfl rfl (iT (((IntWalk.i64_in _ (by omega)).trans (by omega) : _ = ((1 + (a.take (i + 1)).count 10 : Nat) : Int)))) (lt rfl)) rfl rfl ?_
            refine sq (f_assign rfl (lt rfl)) rfl rfl ?_
            refine hits_nil ?_
            refine in_next ?_
            refine to_next ?_
            refine hits_region ?_
            refine sq (f_move rfl (lt rfl)) rfl rfl ?_
            refine sq (f_bin rfl rfl (iT (((IntWalk.i64_in _ (by omega)).trans (by omega) : _ = ((i + 1 : Nat) : Int)))) (lt rfl)) rfl rfl ?_
            refine sq (f_assign rfl (lt rfl)) rfl rfl ?_
            refine hits_nil ?_
            refine to_next ?_
            refine round_end (i + 1) (by omega) (by omega) ⟨rfl, (congrArg (fun n : Nat => some (V.d (D.sc (Value.int .i64 (n : Int))))) rfl), rfl, rfl, rfl, rfl, rfl, rfl, trivial⟩ rfl
        · rw [if_neg hc] at hst
          have hst' : 1 + (a.take i).count 10 = 1 + (a.take (i + 1)).count 10 := by omega
          refine hits_region ?_
          refine sq (f_move rfl (lt rfl)) rfl rfl ?_
          refine sq (f_move rfl (lt rfl)) rfl rfl ?_
          refine sq (f_idxS rfl rfl un9 hat (lt rfl)) rfl rfl ?_
          refine sq (f_bin rfl rfl (bT (beq_eq_false_iff_ne.mpr (byte_ne hc))) (lt rfl)) rfl rfl ?_
          refine hits_nil ?_
          refine to_next ?_
          refine hits_cond rfl (fun c2 => ?_) (fun c2 => ?_)
          case refine_1 => exact absurd c2 Bool.false_ne_true
          case refine_2 =>
            refine hits_skip ?_
            refine in_next ?_
            refine to_next ?_
            refine hits_region ?_
            refine sq (f_move rfl (lt rfl)) rfl rfl ?_
            refine sq (f_bin rfl rfl (iT (((IntWalk.i64_in _ (by omega)).trans (by omega) : _ = ((i + 1 : Nat) : Int)))) (lt rfl)) rfl rfl ?_
            refine sq (f_assign rfl (lt rfl)) rfl rfl ?_
            refine hits_nil ?_
            refine to_next ?_
            refine round_end (i + 1) (by omega) (by omega) ⟨rfl, (congrArg (fun n : Nat => some (V.d (D.sc (Value.int .i64 (n : Int))))) hst'), rfl, rfl, rfl, rfl, rfl, rfl, trivial⟩ rfl
    · obtain rfl : i = a.length := by omega
      have hct : (a.take a.length).count 10 = a.count 10 := by rw [List.take_length]
      have hcl := List.count_le_length (a := (10 : UInt8)) (l := a)
      refine hits_region ?_
      refine sq (f_move rfl (lt rfl)) rfl rfl ?_
      refine sq (f_move rfl (lt rfl)) rfl rfl ?_
      refine sq (f_lenStr rfl un9 (lt rfl)) rfl rfl ?_
      refine sq (f_bin rfl rfl (bT (decide_eq_false (by rw [B_size]; omega))) (lt rfl)) rfl rfl ?_
      refine hits_nil ?_
      refine to_next ?_
      refine hits_cond rfl (fun c1 => ?_) (fun c1 => ?_)
      case refine_1 => exact absurd c1 Bool.false_ne_true
      case refine_2 =>
        refine hits_exit ?_
        refine to_exit ?_
        refine to_exit ?_
        refine in_hit rfl ?_
        refine to_next ?_
        refine hits_seq ?_
        refine hits_seq ?_
        refine hits_region ?_
        refine sq (f_move rfl (lt rfl)) rfl rfl ?_
        refine sq (f_bin rfl rfl (bT (b' := false) rfl) (lt rfl)) rfl rfl ?_
        refine hits_nil ?_
        refine to_next ?_
        refine hits_cond rfl (fun c3 => ?_) (fun c3 => ?_)
        case refine_1 => exact absurd c3 Bool.false_ne_true
        case refine_2 =>
          refine hits_skip ?_
          refine to_next ?_
          refine hits_seq ?_
          refine hits_seq ?_
          refine hits_region ?_
          refine sq (f_move rfl (lt rfl)) rfl rfl ?_
          refine sq (f_bin rfl rfl (bT (b' := true) rfl) (lt rfl)) rfl rfl ?_
          refine hits_nil ?_
          refine to_next ?_
          refine hits_cond rfl (fun c4 => ?_) (fun c4 => ?_)
          case refine_2 => exact absurd c4 Bool.false_ne_true.symm
          case refine_1 =>
            refine hits_seq ?_
            refine hits_region ?_
            refine sq (f_move rfl (lt rfl)) rfl rfl ?_
            refine sq (f_move rfl (lt rfl)) rfl rfl ?_
            refine sq (f_bin rfl rfl (bT (b' := true) rfl) (lt rfl)) rfl rfl ?_
            refine sq (f_move rfl (lt rfl)) rfl rfl ?_
            refine sq_yes (f_move rfl (lt rfl)) rfl rfl rfl rfl (lt rfl) ?_
            refine sq_yes (f_move rfl (lt rfl)) rfl rfl rfl rfl (lt rfl) ?_
            refine sq_yes (f_move rfl (lt rfl)) rfl rfl rfl rfl (lt rfl) ?_
            refine sq_yes (f_bin rfl rfl (iT (((IntWalk.i64_in _ (by omega)).trans (by omega) : _ = ((e + (1 + a.count 10) : Nat) : Int)))) (lt rfl)) rfl rfl rfl rfl (lt rfl) ?_
            refine sq_yes (f_bin rfl rfl (bT ((beq_self_eq_true _))) (lt rfl)) rfl rfl rfl rfl (lt rfl) ?_
            refine sq (f_pick rfl rfl (lt rfl)) rfl rfl ?_
            refine sq (f_assign rfl (lt rfl)) rfl rfl ?_
            refine hits_nil ?_
            refine to_next ?_
            refine hits_ret ?_
            refine to_ret ?_
            exact hits_done (.inl rfl) rfl rfl rfl

set_option maxHeartbeats 4000000 in
set_option maxRecDepth 100000 in
theorem joins_3 (a b : List UInt8) (h1 : ¬ 65535 < a.length) (h2 : ¬ 65535 < b.length) (h : ¬ 65535 < a.length + b.length) {la lb : List Wd} (hW : W a 0 = .inr la) (hV : W b 0 = .inr lb) : CallsP Tryz.prog Lw 7 [.sc (.string (B a)), .sc (.string (B b))] (.sc (.bool true)) := by
  have hwc := words_c ((a ++ [10]) ++ b) (by simp only [List.length_append, List.length_cons, List.length_nil]; omega)
  rw [join_3 hW hV] at hwc
  obtain ⟨hla2, _, _⟩ := W_lines (a.length + 1) a 0 la (Nat.lt_succ_self _) hW
  obtain ⟨hlb2, hlb, _⟩ := W_lines (b.length + 1) b 0 lb (Nat.lt_succ_self _) hV
  have hcb := List.count_le_length (a := (10 : UInt8)) (l := b)
  have hla : (la.map wordD).length = la.length := List.length_map _
  have hsm := samew_c (la ++ lb.map (addLn (1 + a.count 10))) (la ++ lb.map (addLn (1 + a.count 10))) (by rw [List.length_append, List.length_map]; omega)
  rw [decide_eq_true rfl] at hsm
  have hs2 : CallsP Tryz.prog Lw 20 [.list 6 ((la ++ lb.map (addLn (1 + a.count 10))).map wordD), .list 6 (la.map wordD ++ (lb.map (addLn (1 + a.count 10))).map wordD)] (.sc (.bool true)) := by rw [← List.map_append]; exact hsm
  refine callsP_of gs_lw Tryz.func7 rfl Tryz.ntmps7 rfl fun w0 S0 stab => ?_
  refine hits_seq ?_
  refine hits_region ?_
  refine sq (f_assign rfl (lt rfl)) rfl rfl ?_
  refine hits_nil ?_
  refine to_next ?_
  refine hits_seq ?_
  refine hits_seq ?_
  refine hits_region ?_
  refine sq (f_call en22 rfl alive_c (lt rfl)) rfl rfl ?_
  refine sq (f_un rfl rfl (lt rfl)) rfl rfl ?_
  refine sq (f_move rfl (lt rfl)) rfl rfl ?_
  refine sq_yes (f_move rfl (lt rfl)) rfl rfl rfl rfl (lt rfl) ?_
  refine sq_yes (f_lenStr rfl un9 (lt rfl)) rfl rfl rfl rfl (lt rfl) ?_
  refine sq_yes (f_bin rfl rfl (bT (decide_eq_false (by rw [B_size]; omega))) (lt rfl)) rfl rfl rfl rfl (lt rfl) ?_
  refine sq (f_pick rfl rfl (lt rfl)) rfl rfl ?_
  refine sq (f_move rfl (lt rfl)) rfl rfl ?_
  refine sq_yes (f_move rfl (lt rfl)) rfl rfl rfl rfl (lt rfl) ?_
  refine sq_yes (f_lenStr rfl un9 (lt rfl)) rfl rfl rfl rfl (lt rfl) ?_
  refine sq_yes (f_bin rfl rfl (bT (decide_eq_false (by rw [B_size]; omega))) (lt rfl)) rfl rfl rfl rfl (lt rfl) ?_
  refine sq (f_pick rfl rfl (lt rfl)) rfl rfl ?_
  refine sq (f_move rfl (lt rfl)) rfl rfl ?_
  refine sq_yes (f_move rfl (lt rfl)) rfl rfl rfl rfl (lt rfl) ?_
  refine sq_yes (f_lenStr rfl un9 (lt rfl)) rfl rfl rfl rfl (lt rfl) ?_
  refine sq_yes (f_move rfl (lt rfl)) rfl rfl rfl rfl (lt rfl) ?_
  refine sq_yes (f_lenStr rfl un9 (lt rfl)) rfl rfl rfl rfl (lt rfl) ?_
  refine sq_yes (f_bin rfl rfl (iT ((by rw [B_size, B_size]; exact (IntWalk.i64_in _ (by omega)).trans (by omega) : _ = ((a.length + b.length : Nat) : Int)))) (lt rfl)) rfl rfl rfl rfl (lt rfl) ?_
  refine sq_yes (f_bin rfl rfl (bT (decide_eq_false (by omega))) (lt rfl)) rfl rfl rfl rfl (lt rfl) ?_
  refine sq (f_pick rfl rfl (lt rfl)) rfl rfl ?_
  refine hits_nil ?_
  refine to_next ?_
  refine hits_cond rfl (fun c0 => ?_) (fun c0 => ?_)
  case refine_1 => exact absurd c0 Bool.false_ne_true
  case refine_2 =>
    refine hits_skip ?_
    refine to_next ?_
    refine hits_seq ?_
    refine hits_region ?_
    refine sq (f_move rfl (lt rfl)) rfl rfl ?_
    refine sq_callN en18 rfl (words_n a (by omega) hW) (flat_plain la) (flat_len la) (lt rfl) ?_
    refine sq (f_move rfl (lt rfl)) rfl rfl ?_
    refine sq (f_extractV rfl rfl (lt rfl)) rfl rfl ?_
    refine sq (f_extractV rfl rfl (lt rfl)) rfl rfl ?_
    refine sq (f_extractV rfl rfl (lt rfl)) rfl rfl ?_
    refine sq (f_assign rfl (lt rfl)) rfl rfl ?_
    refine sq (f_assign rfl (lt rfl)) rfl rfl ?_
    refine sq (f_assign rfl (lt rfl)) rfl rfl ?_
    refine hits_nil ?_
    refine to_next ?_
    refine hits_seq ?_
    refine hits_freeze 5 40 6 (la.map wordD) rfl rfl (by rw [List.length_map]) (wordD_six _) ?_
    refine hits_region ?_
    refine sq (f_move rfl (lt rfl)) rfl rfl ?_
    refine sq_callN en18 rfl (words_n b (by omega) hV) (flat_plain lb) (flat_len lb) (lt rfl) ?_
    refine sq (f_move rfl (lt rfl)) rfl rfl ?_
    refine sq (f_extractV rfl rfl (lt rfl)) rfl rfl ?_
    refine sq (f_extractV rfl rfl (lt rfl)) rfl rfl ?_
    refine sq (f_extractV rfl rfl (lt rfl)) rfl rfl ?_
    refine sq (f_assign rfl (lt rfl)) rfl rfl ?_
    refine sq (f_assign rfl (lt rfl)) rfl rfl ?_
    refine sq (f_assign rfl (lt rfl)) rfl rfl ?_
    refine hits_nil ?_
    refine to_next ?_
    refine hits_seq ?_
    refine hits_region ?_
    refine sq (f_move rfl (lt rfl)) rfl rfl ?_
    refine sq (f_catI rfl rfl (cat_ok (a) ([10]) (by (try simp only [List.length_append, List.length_cons, List.length_nil]); omega)) (B_app (a) ([10])) (lt rfl)) rfl rfl ?_
    refine sq (f_move rfl (lt rfl)) rfl rfl ?_
    refine sq (f_catI rfl rfl (cat_ok (a ++ [10]) (b) (by (try simp only [List.length_append, List.length_cons, List.length_nil]); omega)) (B_app (a ++ [10]) (b)) (lt rfl)) rfl rfl ?_
    refine sq (f_call en18 rfl hwc (lt rfl)) rfl rfl ?_
    refine sq (f_move rfl (lt rfl)) rfl rfl ?_
    refine sq (f_extract rfl rfl (lt rfl)) rfl rfl ?_
    refine sq (f_extract rfl rfl (lt rfl)) rfl rfl ?_
    refine sq (f_extract rfl rfl (lt rfl)) rfl rfl ?_
    refine sq (f_assign rfl (lt rfl)) rfl rfl ?_
    refine sq (f_assign rfl (lt rfl)) rfl rfl ?_
    refine sq (f_assign rfl (lt rfl)) rfl rfl ?_
    refine hits_nil ?_
    refine to_next ?_
    refine hits_seq ?_
    refine hits_region ?_
    refine sq (f_assign rfl (lt rfl)) rfl rfl ?_
    refine hits_nil ?_
    refine to_next ?_
    refine hits_seq ?_
    refine hits_seq ?_
    refine hits_region ?_
    refine sq (f_assign rfl (lt rfl)) rfl rfl ?_
    refine hits_nil ?_
    refine to_next ?_
    refine hits_block ?_
    refine hits_loop (fun i : Nat => [(.slot 0, some (.d (.sc (.string (B a))))), (.slot 14, some (.d (.sc (.int .i64 ((1 + (a.take i).count 10 : Nat) : Int))))), (.slot 15, some (.d (.sc (.int .i64 ((i : Nat) : Int))))), (.slot 5, some (.own 40 6 (la.map wordD))), (.tip 40, some (.ptr 40 0)), (.slot 7, some (.d (.sc (.int .i64 0)))), (.slot 8, some (.mo 46 6 lb.length)), (.tip 46, some (.cont (contW lb))), (.slot 10, some (.d (.sc (.int .i64 0)))), (.slot 11, some (.d (.list 6 ((la ++ lb.map (addLn (1 + a.count 10))).map wordD)))), (.slot 13, some (.d (.sc (.int .i64 0))))]) (fun i : Nat => i ≤ a.length) (fun i : Nat => a.length - i) 0 (Nat.zero_le _) ⟨rfl, rfl, rfl, rfl, rfl, rfl, rfl, rfl, rfl, rfl, rfl, trivial⟩ rfl ?_
    intro i hi0
    refine hits_seq ?_
    refine hits_seq ?_
    by_cases hi : i < a.length
    · obtain ⟨c, hat0⟩ : ∃ c, a[i]? = some c := ⟨_, List.getElem?_eq_getElem hi⟩
      have hat : (B a).data.toList[i]? = some c := hat0
      have hst := cnt_step hat0
      have hcl := List.count_le_length (a := (10 : UInt8)) (l := a.take i)
      rw [List.length_take] at hcl
      refine hits_region ?_
      refine sq (f_move rfl (lt rfl)) rfl rfl ?_
      refine sq (f_move rfl (lt rfl)) rfl rfl ?_
      refine sq (f_lenStr rfl un9 (lt rfl)) rfl rfl ?_
      refine sq (f_bin rfl rfl (bT (decide_eq_true (by rw [B_size]; omega))) (lt rfl)) rfl rfl ?_
      refine hits_nil ?_
      refine to_next ?_
      refine hits_cond rfl (fun c1 => ?_) (fun c1 => ?_)
      case refine_2 => exact absurd c1 Bool.false_ne_true.symm
      case refine_1 =>
        refine hits_skip ?_
        refine to_next ?_
        refine hits_seq ?_
        refine hits_block ?_
        refine hits_seq ?_
        by_cases hc : c = 10
        · rw [if_pos hc] at hst
          refine hits_region ?_
          refine sq (f_move rfl (lt rfl)) rfl rfl ?_
          refine sq (f_move rfl (lt rfl)) rfl rfl ?_
          refine sq (f_idxS rfl rfl un9 hat (lt rfl)) rfl rfl ?_
          refine sq (f_bin rfl rfl (bT (beq_iff_eq.mpr (by rw [hc]; rfl))) (lt rfl)) rfl rfl ?_
          refine hits_nil ?_
          refine to_next ?_
          refine hits_cond rfl (fun c2 => ?_) (fun c2 => ?_)
          case refine_2 => exact absurd c2 Bool.false_ne_true.symm
          case refine_1 =>
            refine hits_region ?_
            refine sq (f_move rfl (lt rfl)) rfl rfl ?_
            refine sq (f_bin rfl rfl (iT (((IntWalk.i64_in _ (by omega)).trans (by omega) : _ = ((1 + (a.take (i + 1)).count 10 : Nat) : Int)))) (lt rfl)) rfl rfl ?_
            refine sq (f_assign rfl (lt rfl)) rfl rfl ?_
            refine hits_nil ?_
            refine in_next ?_
            refine to_next ?_
            refine hits_region ?_
            refine sq (f_move rfl (lt rfl)) rfl rfl ?_
            refine sq (f_bin rfl rfl (iT (((IntWalk.i64_in _ (by omega)).trans (by omega) : _ = ((i + 1 : Nat) : Int)))) (lt rfl)) rfl rfl ?_
            refine sq (f_assign rfl (lt rfl)) rfl rfl ?_
            refine hits_nil ?_
            refine to_next ?_
            refine round_end (i + 1) (by omega) (by omega) ⟨rfl, (congrArg (fun n : Nat => some (V.d (D.sc (Value.int .i64 (n : Int))))) rfl), rfl, rfl, rfl, rfl, rfl, rfl, rfl, rfl, rfl, trivial⟩ rfl
        · rw [if_neg hc] at hst
          have hst' : 1 + (a.take i).count 10 = 1 + (a.take (i + 1)).count 10 := by omega
          refine hits_region ?_
          refine sq (f_move rfl (lt rfl)) rfl rfl ?_
          refine sq (f_move rfl (lt rfl)) rfl rfl ?_
          refine sq (f_idxS rfl rfl un9 hat (lt rfl)) rfl rfl ?_
          refine sq (f_bin rfl rfl (bT (beq_eq_false_iff_ne.mpr (byte_ne hc))) (lt rfl)) rfl rfl ?_
          refine hits_nil ?_
          refine to_next ?_
          refine hits_cond rfl (fun c2 => ?_) (fun c2 => ?_)
          case refine_1 => exact absurd c2 Bool.false_ne_true
          case refine_2 =>
            refine hits_skip ?_
            refine in_next ?_
            refine to_next ?_
            refine hits_region ?_
            refine sq (f_move rfl (lt rfl)) rfl rfl ?_
            refine sq (f_bin rfl rfl (iT (((IntWalk.i64_in _ (by omega)).trans (by omega) : _ = ((i + 1 : Nat) : Int)))) (lt rfl)) rfl rfl ?_
            refine sq (f_assign rfl (lt rfl)) rfl rfl ?_
            refine hits_nil ?_
            refine to_next ?_
            refine round_end (i + 1) (by omega) (by omega) ⟨rfl, (congrArg (fun n : Nat => some (V.d (D.sc (Value.int .i64 (n : Int))))) hst'), rfl, rfl, rfl, rfl, rfl, rfl, rfl, rfl, rfl, trivial⟩ rfl
    · obtain rfl : i = a.length := by omega
      have hct : (a.take a.length).count 10 = a.count 10 := by rw [List.take_length]
      have hcl := List.count_le_length (a := (10 : UInt8)) (l := a)
      refine hits_region ?_
      refine sq (f_move rfl (lt rfl)) rfl rfl ?_
      refine sq (f_move rfl (lt rfl)) rfl rfl ?_
      refine sq (f_lenStr rfl un9 (lt rfl)) rfl rfl ?_
      refine sq (f_bin rfl rfl (bT (decide_eq_false (by rw [B_size]; omega))) (lt rfl)) rfl rfl ?_
      refine hits_nil ?_
      refine to_next ?_
      refine hits_cond rfl (fun c1 => ?_) (fun c1 => ?_)
      case refine_1 => exact absurd c1 Bool.false_ne_true
      case refine_2 =>
        refine hits_exit ?_
        refine to_exit ?_
        refine to_exit ?_
        refine in_hit rfl ?_
        refine to_next ?_
        refine hits_seq ?_
        refine hits_seq ?_
        refine hits_region ?_
        refine sq (f_move rfl (lt rfl)) rfl rfl ?_
        refine sq (f_bin rfl rfl (bT (b' := false) rfl) (lt rfl)) rfl rfl ?_
        refine hits_nil ?_
        refine to_next ?_
        refine hits_cond rfl (fun c3 => ?_) (fun c3 => ?_)
        case refine_1 => exact absurd c3 Bool.false_ne_true
        case refine_2 =>
          refine hits_skip ?_
          refine to_next ?_
          refine hits_seq ?_
          refine hits_seq ?_
          refine hits_region ?_
          refine sq (f_move rfl (lt rfl)) rfl rfl ?_
          refine sq (f_bin rfl rfl (bT (b' := false) rfl) (lt rfl)) rfl rfl ?_
          refine hits_nil ?_
          refine to_next ?_
          refine hits_cond rfl (fun c4 => ?_) (fun c4 => ?_)
          case refine_1 => exact absurd c4 Bool.false_ne_true
          case refine_2 =>
            refine hits_skip ?_
            refine to_next ?_
            refine hits_seq ?_
            refine hits_seq ?_
            refine hits_region ?_
            refine sq (f_move rfl (lt rfl)) rfl rfl ?_
            refine sq (f_bin rfl rfl (bT (b' := false) rfl) (lt rfl)) rfl rfl ?_
            refine sq (f_move rfl (lt rfl)) rfl rfl ?_
            refine sq_yes (f_move rfl (lt rfl)) rfl rfl rfl rfl (lt rfl) ?_
            refine sq_yes (f_lenList rfl rfl un69 (lt rfl)) rfl rfl rfl rfl (lt rfl) ?_
            refine sq_yes (f_move rfl (lt rfl)) rfl rfl rfl rfl (lt rfl) ?_
            refine sq_yes (f_lenList rfl rfl un69 (lt rfl)) rfl rfl rfl rfl (lt rfl) ?_
            refine sq_yes (f_move rfl (lt rfl)) rfl rfl rfl rfl (lt rfl) ?_
            refine sq_yes (f_lenMo rfl un69 (lt rfl)) rfl rfl rfl rfl (lt rfl) ?_
            refine sq_yes (f_bin rfl rfl (iT ((by rw [hla]; exact (IntWalk.i64_in _ (by omega)).trans (by omega) : _ = ((la.length + lb.length : Nat) : Int)))) (lt rfl)) rfl rfl rfl rfl (lt rfl) ?_
            refine sq_yes (f_bin rfl rfl (bT ((by rw [bne_eq_false_iff_eq, List.length_map, List.length_append, List.length_map] : _ = false))) (lt rfl)) rfl rfl rfl rfl (lt rfl) ?_
            refine sq (f_pick rfl rfl (lt rfl)) rfl rfl ?_
            refine hits_nil ?_
            refine to_next ?_
            refine hits_cond rfl (fun c5 => ?_) (fun c5 => ?_)
            case refine_1 => exact absurd c5 Bool.false_ne_true
            case refine_2 =>
              refine hits_skip ?_
              refine to_next ?_
              refine hits_seq ?_
              refine hits_seq ?_
              refine hits_region ?_
              refine sq (f_assign rfl (lt rfl)) rfl rfl ?_
              refine hits_nil ?_
              refine to_next ?_
              refine hits_block ?_
              refine hits_loop (fun i : Nat => [(.slot 5, some (.own 40 6 (la.map wordD))), (.tip 40, some (.ptr 40 0)), (.slot 8, some (.mo 46 6 lb.length)), (.tip 46, some (.cont (contW (mixL lb i (1 + a.count 10))))), (.slot 11, some (.d (.list 6 ((la ++ lb.map (addLn (1 + a.count 10))).map wordD)))), (.slot 14, some (.d (.sc (.int .i64 ((1 + a.count 10 : Nat) : Int))))), (.slot 16, some (.d (.sc (.int .i64 ((i : Nat) : Int)))))]) (fun i : Nat => i ≤ lb.length) (fun i : Nat => lb.length - i) 0 (Nat.zero_le _) ⟨rfl, rfl, rfl, rfl, rfl, (congrArg (fun n : Nat => some (V.d (D.sc (Value.int .i64 ((1 + n : Nat) : Int))))) hct), rfl, trivial⟩ rfl ?_
              intro i hi1
              refine hits_seq ?_
              refine hits_seq ?_
              by_cases hi2 : i < lb.length
              · obtain ⟨x, hx⟩ : ∃ x, lb[i]? = some x := ⟨_, List.getElem?_eq_getElem hi2⟩
                have hln := (hlb x (List.mem_of_getElem? hx)).2
                have hcm : lb.length * 6 = (contW (mixL lb i (1 + a.count 10))).length := by rw [contW_len, mix_len]
                refine hits_region ?_
                refine sq (f_move rfl (lt rfl)) rfl rfl ?_
                refine sq (f_move rfl (lt rfl)) rfl rfl ?_
                refine sq (f_lenMo rfl un69 (lt rfl)) rfl rfl ?_
                refine sq (f_bin rfl rfl (bT (decide_eq_true (by omega))) (lt rfl)) rfl rfl ?_
                refine hits_nil ?_
                refine to_next ?_
                refine hits_cond rfl (fun c6 => ?_) (fun c6 => ?_)
                case refine_2 => exact absurd c6 Bool.false_ne_true.symm
                case refine_1 =>
                  refine hits_skip ?_
                  refine to_next ?_
                  refine hits_seq ?_
                  refine hits_block ?_
                  refine hits_region ?_
                  refine sq (f_move rfl (lt rfl)) rfl rfl ?_
                  refine sq (f_move rfl (lt rfl)) rfl rfl ?_
                  refine sq (f_move rfl (lt rfl)) rfl rfl ?_
                  refine sq (f_move rfl (lt rfl)) rfl rfl ?_
                  refine sq (f_idxMo rfl rfl un69 kd77 hi2 (lt rfl)) rfl rfl ?_
                  refine sq (f_fieldAddrM rfl kf77_3 (lt rfl)) rfl rfl ?_
                  refine sq (f_loadM kd3 rfl rfl hcm (contW_get (mix_at hx)) (lt rfl)) rfl rfl ?_
                  refine sq (f_move rfl (lt rfl)) rfl rfl ?_
                  refine sq (f_bin rfl rfl (iT (((IntWalk.i64_in _ (by omega)).trans (by omega) : _ = ((x.ln + (1 + a.count 10) : Nat) : Int)))) (lt rfl)) rfl rfl ?_
                  refine sq (f_idxMo rfl rfl un69 kd77 hi2 (lt rfl)) rfl rfl ?_
                  refine sq (f_fieldAddrM rfl kf77_3 (lt rfl)) rfl rfl ?_
                  refine sq (f_storeM kd3 rfl rfl hcm (by rw [← hcm]; omega) rfl rfl) rfl rfl ?_
                  refine hits_nil ?_
                  refine in_next ?_
                  refine to_next ?_
                  refine hits_region ?_
                  refine sq (f_move rfl (lt rfl)) rfl rfl ?_
                  refine sq (f_bin rfl rfl (iT (((IntWalk.i64_in _ (by omega)).trans (by omega) : _ = ((i + 1 : Nat) : Int)))) (lt rfl)) rfl rfl ?_
                  refine sq (f_assign rfl (lt rfl)) rfl rfl ?_
                  refine hits_nil ?_
                  refine to_next ?_
                  refine round_end (i + 1) (by omega) (by omega) ⟨rfl, rfl, rfl, (congrArg (fun l => some (V.cont l)) (cont_step hx)), rfl, rfl, rfl, trivial⟩ rfl
              · have hme : contW (mixL lb i (1 + a.count 10)) = (flat ((lb.map (addLn (1 + a.count 10))).map wordD)).map V.d := by rw [mix_end (by omega)]; rfl
                refine hits_region ?_
                refine sq (f_move rfl (lt rfl)) rfl rfl ?_
                refine sq (f_move rfl (lt rfl)) rfl rfl ?_
                refine sq (f_lenMo rfl un69 (lt rfl)) rfl rfl ?_
                refine sq (f_bin rfl rfl (bT (decide_eq_false (by omega))) (lt rfl)) rfl rfl ?_
                refine hits_nil ?_
                refine to_next ?_
                refine hits_cond rfl (fun c6 => ?_) (fun c6 => ?_)
                case refine_1 => exact absurd c6 Bool.false_ne_true
                case refine_2 =>
                  refine hits_exit ?_
                  refine to_exit ?_
                  refine to_exit ?_
                  refine in_hit rfl ?_
                  refine to_next ?_
                  refine hits_seq ?_
                  refine hits_freeze 8 46 6 ((lb.map (addLn (1 + a.count 10))).map wordD) rfl (congrArg (fun l => some (V.cont l)) hme) (by rw [List.length_map, List.length_map]) (wordD_six _) ?_
                  refine hits_region ?_
                  refine sq (f_move rfl (lt rfl)) rfl rfl ?_
                  refine sq (f_move rfl (lt rfl)) rfl rfl ?_
                  refine sq (f_move rfl (lt rfl)) rfl rfl ?_
                  refine sq_append rfl rfl rfl rfl apk69 (by simp only [List.length_map]; omega) (by simp only [List.length_map]; omega) (flat_one _) (lt rfl) ?_
                  refine sq (f_call en20 rfl hs2 (lt rfl)) rfl rfl ?_
                  refine sq (f_assign rfl (lt rfl)) rfl rfl ?_
                  refine hits_nil ?_
                  refine to_next ?_
                  refine hits_ret ?_
                  exact hits_done (.inl rfl) rfl rfl rfl

theorem joins_c (a b : List UInt8) : CallsP Tryz.prog Lw 7 [.sc (.string (B a)), .sc (.string (B b))] (.sc (.bool true)) := by
  by_cases h1 : 65535 < a.length
  · exact joins_a a b h1
  by_cases h2 : 65535 < b.length
  · exact joins_b a b h1 h2
  by_cases h : 65535 < a.length + b.length
  · exact joins_ab a b h1 h2 h
  cases hW : W a 0 with
  | inl e => exact joins_1 a b h1 h2 h hW
  | inr la =>
    cases hV : W b 0 with
    | inl e => exact joins_2 a b h1 h2 h hW hV
    | inr lb => exact joins_3 a b h1 h2 h hW hV
theorem pointsmanlaw07_LexJoins.calls (a0 a1 : ByteArray) (r : Bool) (w : World) (hg : Lw w) (hk : r = true) : Calls Tryz.prog 7 #[.string a0, .string a1] w fun e w' => e = .returned (.bool r) ∧ Below w.heap.size w w' := by
  subst hk
  have h := joins_c a0.data.toList a1.data.toList
  rw [B_of, B_of] at h
  exact h.calls rfl rfl w hg

end Go.Proofs.YtcaedggggkchiaaGreatDoor.Ln
