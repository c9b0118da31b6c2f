/- lex's word over data. -/
import Derived.Test.YtbgeejmhkmjfdaaGreatDoorAbNumber
namespace Go.Proofs.YtbgeejmhkmjfdaaGreatDoor.Ln
open Go Go.RowKit Go.Ab Go.Proofs 
set_option linter.unusedVariables false
set_option linter.unusedSimpArgs false
theorem en25 : enters Tryz.prog 25 = true := by kernel_rfl
theorem en27 : enters Tryz.prog 27 = true := by kernel_rfl
theorem en26 : enters Tryz.prog 26 = true := by kernel_rfl
theorem en28 : enters Tryz.prog 28 = true := by kernel_rfl
theorem un41 : Tryz.prog.underlying 41 = some (.slice 9) := by kernel_rfl
theorem en29 : enters Tryz.prog 29 = true := by kernel_rfl
theorem kf37_0 : kf Tryz.prog 37 0 = some 0 := by kernel_rfl
theorem kd32 : kd Tryz.prog 32 = some (false, 1) := by kernel_rfl
theorem kf37_1 : kf Tryz.prog 37 1 = some 1 := by kernel_rfl
theorem len_dec (l : List UInt8) : decide ((l.length : Int) ≤ 255) = decide (l.length ≤ 255) := by
  by_cases h : l.length ≤ 255
  · rw [decide_eq_true h, decide_eq_true (by omega)]
  · rw [decide_eq_false h, decide_eq_false (by omega)]
theorem word_name {c : UInt8} {r : List UInt8} (ha : aln c = true) (hd : dgt c = false) : wordW (c :: r) = ⟨1, (c :: r).takeWhile aln, 0, 0, 0, 0⟩ ∧ wordOk (c :: r) = decide (((c :: r).takeWhile aln).length ≤ 255) := by
  simp only [wordW, wordOk, if_pos ha, hd, Bool.false_eq_true, if_false, and_self]
theorem word_nameT {c : UInt8} {r : List UInt8} (ha : aln c = true) : wordT (c :: r) = (c :: r).dropWhile aln := by simp only [wordT, if_pos ha]
theorem word_num {c : UInt8} {r : List UInt8} (ha : aln c = true) (hd : dgt c = true) : wordW (c :: r) = numW ((c :: r).takeWhile aln) ∧ wordOk (c :: r) = numOk ((c :: r).takeWhile aln) := by
  simp only [wordW, wordOk, if_pos ha, if_pos hd, and_self]
theorem find_none {c : UInt8} {r : List UInt8} (h : ∀ t ∈ sgns.take 27, t.isPrefixOf (c :: r) = false) : sgns.find? (fun t => t.isPrefixOf (c :: r)) = none := by
  rw [List.find?_eq_none]
  intro t ht
  have := h t (by simpa [sgns] using ht)
  simp [this]
theorem find_more {i : Nat} {s t : List UInt8} (hs : sgns[i]? = some s) (hp : s.isPrefixOf t = false) (hJ : ∀ s ∈ sgns.take i, s.isPrefixOf t = false) : ∀ s ∈ sgns.take (i + 1), s.isPrefixOf t = false := by
  intro x hx
  rw [List.take_add_one, hs] at hx
  rcases List.mem_append.mp hx with q | q
  · exact hJ x q
  · simp at q; subst q; exact hp
theorem find_hit {i : Nat} {s t : List UInt8} (hs : sgns[i]? = some s) (hp : s.isPrefixOf t = true) (hJ : ∀ s ∈ sgns.take i, s.isPrefixOf t = false) : sgns.find? (fun s => s.isPrefixOf t) = some s := by
  rw [List.find?_eq_some_iff_append]
  obtain ⟨h1, h2⟩ := List.getElem?_eq_some_iff.mp hs
  refine ⟨hp, sgns.take i, sgns.drop (i + 1), ?_, fun a ha => by simp [hJ a ha]⟩
  rw [← h2, ← List.drop_eq_getElem_cons h1, List.take_append_drop]
theorem word_sgn {c : UInt8} {r s : List UInt8} (ha : ¬ aln c = true) (hf : sgns.find? (fun t => t.isPrefixOf (c :: r)) = some s) : (wordW (c :: r)).s = s := by simp only [wordW, if_neg ha, hf]
theorem word_sgnT {c : UInt8} {r s : List UInt8} (ha : ¬ aln c = true) (hf : sgns.find? (fun t => t.isPrefixOf (c :: r)) = some s) : wordT (c :: r) = (c :: r).drop s.length := by simp only [wordT, if_neg ha, hf]
theorem word_sgnO {c : UInt8} {r s : List UInt8} (ha : ¬ aln c = true) (hf : sgns.find? (fun t => t.isPrefixOf (c :: r)) = some s) : wordOk (c :: r) = true := by simp only [wordOk, if_neg ha, hf]; rfl
theorem word_noS {c : UInt8} {r : List UInt8} (ha : ¬ aln c = true) (hf : sgns.find? (fun t => t.isPrefixOf (c :: r)) = none) : (wordW (c :: r)).s = [] := by simp only [wordW, if_neg ha, hf]
theorem word_noT {c : UInt8} {r : List UInt8} (ha : ¬ aln c = true) (hf : sgns.find? (fun t => t.isPrefixOf (c :: r)) = none) : wordT (c :: r) = c :: r := by simp only [wordT, if_neg ha, hf]
theorem word_noO {c : UInt8} {r : List UInt8} (ha : ¬ aln c = true) (hf : sgns.find? (fun t => t.isPrefixOf (c :: r)) = none) : wordOk (c :: r) = false := by simp only [wordOk, if_neg ha, hf]; rfl
theorem word_sD {c : UInt8} {r : List UInt8} (ha : ¬ aln c = true) : wordW (c :: r) = ⟨4, (wordW (c :: r)).s, 0, 0, 0, 0⟩ := by
  simp only [wordW, if_neg ha]
  cases sgns.find? (fun t => t.isPrefixOf (c :: r)) <;> rfl
set_option maxRecDepth 100000 in
theorem word_c {c : UInt8} {r : List UInt8} {ln : Int} (hl : (c :: r).length ≤ 281474976710656) : CallsB Tryz.prog Lw 12 [.sc (.string (B (c :: r))), .sc (.int .i64 ln)] [] [.sc (.string (B (wordT (c :: r)))), .sc (.int .i64 ln)] (.tup [wordD (wordW (c :: r)), .sc (.bool (wordOk (c :: r)))]) := by
  have hE : enters Tryz.prog 25 = true := en25
  have hd := digit_c gs_lw c
  have hlt := letter_c gs_lw c
  have hat0 : (B (c :: r)).data.toList[0]? = some c := by rw [B_toList]; rfl
  refine callsB_of Tryz.func12 rfl Tryz.ntmps12 rfl rfl fun w0 S0 b stab => ?_
  refine hits_seq ?_
  refine hits_region ?_
  refine sq (f_alloc zc37 (lt rfl)) rfl rfl ?_
  refine sq (f_assign rfl (lt rfl)) rfl rfl ?_
  refine hits_nil ?_
  refine to_next ?_
  refine hits_scope ?_
  refine hits_seq ?_
  refine hits_seq ?_
  refine hits_region ?_
  refine sq (f_move rfl (lt rfl)) rfl rfl ?_
  refine sq (f_nil rfl rfl (lt rfl)) rfl rfl ?_
  refine sq (f_fieldAddr rfl kf52_0 rfl (lt rfl)) rfl rfl ?_
  refine sq (f_load kd9 rfl rfl (lt rfl)) rfl rfl ?_
  refine sq (f_idxS rfl rfl un9 hat0 (lt rfl)) rfl rfl ?_
  refine sq (f_assign rfl (lt rfl)) rfl rfl ?_
  refine hits_nil ?_
  refine to_next ?_
  refine hits_block ?_
  refine hits_seq ?_
  by_cases ha : aln c = true
  · have hta : ((c :: r).takeWhile aln) ≠ [] := by rw [List.takeWhile_cons, if_pos ha]; simp
    have htl : ((c :: r).takeWhile aln).length ≤ 281474976710656 := Nat.le_trans (List.takeWhile_sublist _).length_le hl
    cases hdc : dgt c
    · rw [hdc] at hd
      have hlc : ltr c = true := by rw [aln, hdc, Bool.false_or] at ha; exact ha
      rw [hlc] at hlt
      refine hits_region ?_
      refine sq (f_move rfl (lt rfl)) rfl rfl ?_
      refine sq (f_call en23 rfl hd (lt rfl)) rfl rfl ?_
      refine sq (f_move rfl (lt rfl)) rfl rfl ?_
      refine sq_yes (f_move rfl (lt rfl)) rfl rfl rfl rfl (lt rfl) ?_
      refine sq_yes (f_call en24 rfl hlt (lt rfl)) rfl rfl rfl rfl (lt rfl) ?_
      refine sq (f_pick rfl rfl (lt rfl)) rfl rfl ?_
      refine sq (f_assign rfl (lt rfl)) rfl rfl ?_
      refine hits_nil ?_
      refine to_next ?_
      refine hits_cond rfl (fun c0 => ?_) (fun c0 => absurd c0 Bool.false_ne_true.symm)
      refine hits_seq ?_
      refine hits_region ?_
      refine sq (f_move rfl (lt rfl)) rfl rfl ?_
      refine sq_callB en19 rfl rfl (eat_c (by omega) hE (aln_c gs_lw)) ⟨rfl, rfl, trivial⟩ rfl rfl rfl rfl (lt rfl) ?_
      refine sq (f_assign rfl (lt rfl)) rfl rfl ?_
      refine hits_nil ?_
      refine to_next ?_
      refine hits_seq ?_
      refine hits_seq ?_
      refine hits_region ?_
      refine sq (f_move rfl (lt rfl)) rfl rfl ?_
      refine sq (f_call en23 rfl hd (lt rfl)) rfl rfl ?_
      refine hits_nil ?_
      refine to_next ?_
      refine hits_cond rfl (fun c1 => absurd c1 Bool.false_ne_true) (fun c1 => ?_)
      refine hits_skip ?_
      refine to_next ?_
      refine hits_seq ?_
      refine hits_region ?_
      refine sq (f_move rfl (lt rfl)) rfl rfl ?_
      refine sq (f_call en27 rfl (sclone_c _ (by rw [B_size]; exact htl)) (lt rfl)) rfl rfl ?_
      refine sq (f_build bu37 rfl rfl (lt rfl)) rfl rfl ?_
      refine sq (f_move rfl (lt rfl)) rfl rfl ?_
      refine sq (f_lenStr rfl un9 (lt rfl)) rfl rfl ?_
      refine sq (f_bin rfl rfl (bT ((by rw [B_size]; exact len_dec _ : _ = decide (((c :: r).takeWhile aln).length ≤ 255)))) (lt rfl)) rfl rfl ?_
      refine sq (f_store kd37 rfl rfl rfl rfl rfl) rfl rfl ?_
      refine sq (f_assign rfl (lt rfl)) rfl rfl ?_
      refine hits_nil ?_
      refine to_next ?_
      refine hits_ret ?_
      refine in_ret ?_
      refine to_ret ?_
      refine ng_ret ?_
      refine hits_doneB (ds := [wordD (wordW (c :: r)), .sc (.bool (wordOk (c :: r)))]) (.inl rfl) rfl rfl (by rw [(word_name ha hdc).1, (word_name ha hdc).2]; rfl) rfl rfl ⟨(congrArg (fun z => some (V.d (.sc (.string (B z))))) (word_nameT ha)).symm, rfl, trivial⟩ rfl
    · rw [hdc] at hd
      have hnum := number_c ((c :: r).takeWhile aln) htl hta
      refine hits_region ?_
      refine sq (f_move rfl (lt rfl)) rfl rfl ?_
      refine sq (f_call en23 rfl hd (lt rfl)) rfl rfl ?_
      refine sq (f_move rfl (lt rfl)) rfl rfl ?_
      refine sq_no rfl rfl rfl rfl rfl (lt rfl) (lt rfl) ?_
      refine sq_no rfl rfl rfl rfl rfl (lt rfl) (lt rfl) ?_
      refine sq (f_pick rfl rfl (lt rfl)) rfl rfl ?_
      refine sq (f_assign rfl (lt rfl)) rfl rfl ?_
      refine hits_nil ?_
      refine to_next ?_
      refine hits_cond rfl (fun c0 => ?_) (fun c0 => absurd c0 Bool.false_ne_true.symm)
      refine hits_seq ?_
      refine hits_region ?_
      refine sq (f_move rfl (lt rfl)) rfl rfl ?_
      refine sq_callB en19 rfl rfl (eat_c (by omega) hE (aln_c gs_lw)) ⟨rfl, rfl, trivial⟩ rfl rfl rfl rfl (lt rfl) ?_
      refine sq (f_assign rfl (lt rfl)) rfl rfl ?_
      refine hits_nil ?_
      refine to_next ?_
      refine hits_seq ?_
      refine hits_seq ?_
      refine hits_region ?_
      refine sq (f_move rfl (lt rfl)) rfl rfl ?_
      refine sq (f_call en23 rfl hd (lt rfl)) rfl rfl ?_
      refine hits_nil ?_
      refine to_next ?_
      refine hits_cond rfl (fun c1 => ?_) (fun c1 => absurd c1 Bool.false_ne_true.symm)
      refine hits_seq ?_
      refine hits_region ?_
      refine sq (f_move rfl (lt rfl)) rfl rfl ?_
      refine sq (f_call en26 rfl hnum (lt rfl)) rfl rfl ?_
      refine sq (f_extract rfl rfl (lt rfl)) rfl rfl ?_
      refine sq (f_extract rfl rfl (lt rfl)) rfl rfl ?_
      refine sq (f_store kd37 rfl rfl rfl rfl rfl) rfl rfl ?_
      refine sq (f_assign rfl (lt rfl)) rfl rfl ?_
      refine hits_nil ?_
      refine to_next ?_
      refine hits_ret ?_
      refine to_ret ?_
      refine in_ret ?_
      refine to_ret ?_
      refine ng_ret ?_
      refine hits_doneB (ds := [wordD (wordW (c :: r)), .sc (.bool (wordOk (c :: r)))]) (.inl rfl) rfl rfl (by rw [(word_num ha hdc).1, (word_num ha hdc).2]; rfl) rfl rfl ⟨(congrArg (fun z => some (V.d (.sc (.string (B z))))) (word_nameT ha)).symm, rfl, trivial⟩ rfl
  · have hdc : dgt c = false := by cases h : dgt c with | false => rfl | true => exact absurd (by rw [aln, h]; rfl) ha
    have hlc : ltr c = false := by cases h : ltr c with | false => rfl | true => exact absurd (by rw [aln, h, Bool.or_true]) ha
    rw [hdc] at hd
    rw [hlc] at hlt
    refine hits_region ?_
    refine sq (f_move rfl (lt rfl)) rfl rfl ?_
    refine sq (f_call en23 rfl hd (lt rfl)) rfl rfl ?_
    refine sq (f_move rfl (lt rfl)) rfl rfl ?_
    refine sq_yes (f_move rfl (lt rfl)) rfl rfl rfl rfl (lt rfl) ?_
    refine sq_yes (f_call en24 rfl hlt (lt rfl)) rfl rfl rfl rfl (lt rfl) ?_
    refine sq (f_pick rfl rfl (lt rfl)) rfl rfl ?_
    refine sq (f_assign rfl (lt rfl)) rfl rfl ?_
    refine hits_nil ?_
    refine to_next ?_
    refine hits_cond rfl (fun c0 => absurd c0 Bool.false_ne_true) (fun c0 => ?_)
    refine hits_skip ?_
    refine in_next ?_
    refine to_next ?_
    refine hits_seq ?_
    refine hits_region ?_
    refine sq (f_fieldAddr rfl kf37_0 rfl (lt rfl)) rfl rfl ?_
    refine sq (f_store kd32 rfl rfl rfl rfl rfl) rfl rfl ?_
    refine hits_nil ?_
    refine to_next ?_
    refine hits_seq ?_
    refine hits_label ?_
    refine to_next ?_
    refine hits_seq ?_
    refine hits_seq ?_
    refine hits_region ?_
    refine sq (f_call en28 rfl signs_c (lt rfl)) rfl rfl ?_
    refine sq (f_lenList rfl rfl un41 (lt rfl)) rfl rfl ?_
    refine sq (f_move rfl (lt rfl)) rfl rfl ?_
    refine hits_nil ?_
    refine to_next ?_
    refine hits_block ?_
    refine hits_via (fun _ : Unit => [(.slot 0, some (.ptr 1000000 0)), (.box 1000000, some (.ptr 1000000 0)), (.cell 1000000 0, some (.d (.sc (.string (B (wordT (c :: r))))))), (.cell 1000000 1, some (.d (.sc (.int .i64 ln)))), (.slot 2, some (.ptr 2 0)), (.box 2, some (.ptr 2 0)), (.cell 2 0, some (.d (.sc (.int .u8 4)))), (.cell 2 1, some (.d (.sc (.string (B (wordW (c :: r)).s))))), (.cell 2 2, some (.d (.sc (.int .i64 0)))), (.cell 2 3, some (.d (.sc (.int .u64 0)))), (.cell 2 4, some (.d (.sc (.int .u64 0)))), (.cell 2 5, some (.d (.sc (.int .i64 0)))), (.slot 3, some (.d (.sc (.bool (wordOk (c :: r))))))]) (fun _ => True) 1 (fun rest => ?_) ?_
    · refine hits_loop (fun i : Nat => [(.slot 0, some (.ptr 1000000 0)), (.box 1000000, some (.ptr 1000000 0)), (.cell 1000000 0, some (.d (.sc (.string (B (c :: r)))))), (.cell 1000000 1, some (.d (.sc (.int .i64 ln)))), (.slot 2, some (.ptr 2 0)), (.box 2, some (.ptr 2 0)), (.cell 2 0, some (.d (.sc (.int .u8 4)))), (.cell 2 1, some (.d (.sc (.string (B []))))), (.cell 2 2, some (.d (.sc (.int .i64 0)))), (.cell 2 3, some (.d (.sc (.int .u64 0)))), (.cell 2 4, some (.d (.sc (.int .u64 0)))), (.cell 2 5, some (.d (.sc (.int .i64 0)))), (.slot 3, some (.d (.sc (.bool false)))), (.slot 37, some (.d (.list 1 sgD))), (.slot 38, some (.d (.sc (.int .i64 27)))), (.slot 39, some (.d (.sc (.int .i64 (i : Int)))))]) (fun i : Nat => i ≤ 27 ∧ ∀ t ∈ sgns.take i, t.isPrefixOf (c :: r) = false) (fun i : Nat => 27 - i) 0 ⟨by decide, by simp⟩ ⟨rfl, rfl, rfl, rfl, rfl, rfl, rfl, rfl, rfl, rfl, rfl, rfl, rfl, rfl, rfl, rfl, trivial⟩ rfl ?_
      intro i hx
      obtain ⟨hi, hJ⟩ := hx
      refine hits_seq ?_
      refine hits_region ?_
      refine sq (f_bin rfl rfl rfl (lt rfl)) rfl rfl ?_
      refine hits_nil ?_
      refine to_next ?_
      refine hits_seq ?_
      refine hits_cond rfl (fun c2 => ?_) (fun c2 => ?_)
      · refine hits_skip ?_
        refine to_next ?_
        refine hits_seq ?_
        refine hits_block ?_
        refine hits_seq ?_
        obtain ⟨s, hs⟩ : ∃ s, sgns[i]? = some s := ⟨_, List.getElem?_eq_getElem (by have := of_decide_eq_true c2; show i < 27; omega)⟩
        have hcp := cutp_c (Γ := Lw) (c :: r) s
        refine hits_region ?_
        refine sq (f_idxList rfl rfl rfl un41 kd9 (Int.natCast_nonneg _) (sgD_at hs) (lt rfl)) rfl rfl ?_
        refine sq (f_load kd9 rfl rfl (lt rfl)) rfl rfl ?_
        refine sq (f_assign rfl (lt rfl)) rfl rfl ?_
        refine hits_nil ?_
        refine to_next ?_
        refine hits_seq ?_
        cases hp : s.isPrefixOf (c :: r)
        · rw [hp] at hcp
          refine hits_region ?_
          refine sq (f_move rfl (lt rfl)) rfl rfl ?_
          refine sq (f_nil rfl rfl (lt rfl)) rfl rfl ?_
          refine sq (f_fieldAddr rfl kf52_0 rfl (lt rfl)) rfl rfl ?_
          refine sq (f_load kd9 rfl rfl (lt rfl)) rfl rfl ?_
          refine sq (f_move rfl (lt rfl)) rfl rfl ?_
          refine sq (f_call en29 rfl hcp (lt rfl)) rfl rfl ?_
          refine sq (f_move rfl (lt rfl)) rfl rfl ?_
          refine sq (f_extract rfl rfl (lt rfl)) rfl rfl ?_
          refine sq (f_extract rfl rfl (lt rfl)) rfl rfl ?_
          refine sq (f_assign rfl (lt rfl)) rfl rfl ?_
          refine sq (f_assign rfl (lt rfl)) rfl rfl ?_
          refine hits_nil ?_
          refine to_next ?_
          refine hits_seq ?_
          refine hits_region ?_
          refine sq (f_move rfl (lt rfl)) rfl rfl ?_
          refine hits_nil ?_
          refine to_next ?_
          refine hits_cond rfl (fun c3 => absurd c3 Bool.false_ne_true) (fun c3 => ?_)
          refine hits_skip ?_
          refine in_next ?_
          refine to_next ?_
          refine hits_region ?_
          refine sq (f_bin rfl rfl (iT (((IntWalk.i64_in _ (by omega)).trans (by omega) : _ = ((i + 1 : Nat) : Int)))) (lt rfl)) rfl rfl ?_
          refine sq (f_move rfl (lt rfl)) rfl rfl ?_
          refine hits_nil ?_
          refine to_next ?_
          refine round_end (i + 1) ⟨by have := (List.getElem?_eq_some_iff.mp hs).1; exact this, find_more hs hp hJ⟩ (by have := (List.getElem?_eq_some_iff.mp hs).1; have h27 : sgns.length = 27 := rfl; omega) ⟨rfl, rfl, rfl, rfl, rfl, rfl, rfl, rfl, rfl, rfl, rfl, rfl, rfl, rfl, rfl, rfl, trivial⟩ rfl
        · rw [hp] at hcp
          have hf := find_hit hs hp hJ
          refine hits_region ?_
          refine sq (f_move rfl (lt rfl)) rfl rfl ?_
          refine sq (f_nil rfl rfl (lt rfl)) rfl rfl ?_
          refine sq (f_fieldAddr rfl kf52_0 rfl (lt rfl)) rfl rfl ?_
          refine sq (f_load kd9 rfl rfl (lt rfl)) rfl rfl ?_
          refine sq (f_move rfl (lt rfl)) rfl rfl ?_
          refine sq (f_call en29 rfl hcp (lt rfl)) rfl rfl ?_
          refine sq (f_move rfl (lt rfl)) rfl rfl ?_
          refine sq (f_extract rfl rfl (lt rfl)) rfl rfl ?_
          refine sq (f_extract rfl rfl (lt rfl)) rfl rfl ?_
          refine sq (f_assign rfl (lt rfl)) rfl rfl ?_
          refine sq (f_assign rfl (lt rfl)) rfl rfl ?_
          refine hits_nil ?_
          refine to_next ?_
          refine hits_seq ?_
          refine hits_region ?_
          refine sq (f_move rfl (lt rfl)) rfl rfl ?_
          refine hits_nil ?_
          refine to_next ?_
          refine hits_cond rfl (fun c3 => ?_) (fun c3 => absurd c3 Bool.false_ne_true.symm)
          refine hits_seq ?_
          refine hits_region ?_
          refine sq (f_move rfl (lt rfl)) rfl rfl ?_
          refine sq (f_move rfl (lt rfl)) rfl rfl ?_
          refine sq (f_move rfl (lt rfl)) rfl rfl ?_
          refine sq (f_fieldAddr rfl kf37_1 rfl (lt rfl)) rfl rfl ?_
          refine sq (f_store kd9 rfl rfl rfl rfl rfl) rfl rfl ?_
          refine sq (f_nil rfl rfl (lt rfl)) rfl rfl ?_
          refine sq (f_fieldAddr rfl kf52_0 rfl (lt rfl)) rfl rfl ?_
          refine sq (f_store kd9 rfl rfl rfl rfl rfl) rfl rfl ?_
          refine sq (f_assign rfl (lt rfl)) rfl rfl ?_
          refine hits_nil ?_
          refine to_next ?_
          refine hits_exit ?_
          refine in_miss rfl ?_
          refine to_exit ?_
          refine to_exit ?_
          exact hits_out rest () trivial ⟨rfl, rfl, (congrArg (fun z => some (V.d (.sc (.string (B z))))) (word_sgnT ha hf)).symm, rfl, rfl, rfl, rfl, (congrArg (fun z => some (V.d (.sc (.string (B z))))) (word_sgn ha hf)).symm, rfl, rfl, rfl, rfl, (congrArg (fun z => some (V.d (.sc (.bool z)))) (word_sgnO ha hf)).symm, trivial⟩ rfl
      · refine hits_exit ?_
        refine to_exit ?_
        refine to_exit ?_
        have hi27 : i = 27 := by have := of_decide_eq_false c2; omega
        have hf := find_none (by rw [hi27] at hJ; exact hJ)
        exact hits_out rest () trivial ⟨rfl, rfl, (congrArg (fun z => some (V.d (.sc (.string (B z))))) (word_noT ha hf)).symm, rfl, rfl, rfl, rfl, (congrArg (fun z => some (V.d (.sc (.string (B z))))) (word_noS ha hf)).symm, rfl, rfl, rfl, rfl, (congrArg (fun z => some (V.d (.sc (.bool z)))) (word_noO ha hf)).symm, trivial⟩ rfl
    · intro _ _
      refine in_hit rfl ?_
      refine to_next ?_
      refine hits_seq ?_
      refine hits_region ?_
      refine sq (f_load kd37 rfl rfl (lt rfl)) rfl rfl ?_
      refine sq (f_move rfl (lt rfl)) rfl rfl ?_
      refine sq (f_store kd37 rfl rfl rfl rfl rfl) rfl rfl ?_
      refine sq (f_assign rfl (lt rfl)) rfl rfl ?_
      refine hits_nil ?_
      refine to_next ?_
      refine hits_ret ?_
      refine ng_ret ?_
      refine hits_doneB (ds := [wordD (wordW (c :: r)), .sc (.bool (wordOk (c :: r)))]) (.inl rfl) rfl rfl (by rw [word_sD ha]; rfl) rfl rfl ⟨rfl, rfl, trivial⟩ rfl
end Go.Proofs.YtbgeejmhkmjfdaaGreatDoor.Ln
