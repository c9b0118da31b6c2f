/- Parse of any text over data. -/
import Derived.Test.YtbgeejmhkmjfdaaGreatDoorAbTot
namespace Go.Proofs.YtbgeejmhkmjfdaaGreatDoor.Ln
open Go Go.RowKit Go.Ab Go.Proofs 
set_option linter.unusedVariables false
set_option linter.unusedSimpArgs false
theorem W_facts {s : Tx} {L : List Wd} (h : W s 0 = .inr L) : L.length ≤ s.length ∧ Small L ∧ Wide L ∧ ∀ x ∈ L, x.k ≠ 0 := by
  have hg := row_good (W_row (s.length + 1) s 0 L (by omega) h)
  refine ⟨(W_lines (s.length + 1) s 0 L (by omega) h).1, fun x hx hk => ?_, fun x hx hk => ?_, fun x hx hk => ?_⟩
  · rcases (hg x hx).1.2 with h | h | h | h
    · have := h.1; simp only at this; omega
    · exact h.2.2.2.2
    · have := h.1; simp only at this; omega
    · have := h.1; simp only at this; omega
  · rcases (hg x hx).1.2 with h | h | h | h
    · have := h.1; simp only at this; omega
    · have := h.1; simp only at this; omega
    · exact h.2.2.2.1
    · have := h.1; simp only at this; omega
  · rcases (hg x hx).1.2 with h | h | h | h <;> (have := h.1; simp only at this; omega)
theorem big_count {L : List Wd} (hL : L.length ≤ 65536) : ∀ ds j, (progP (fuel L) []).run wEnd L 0 = .ok ds j → (progC ds).1 ≤ big := fun ds j h => by
  have h1 := prog_count h
  have h2 : j ≤ L.length := by
    have : ∀ (f : Nat) (acc : List Dc), Tame (progP f acc) := by
      intro f
      induction f with
      | zero => intro acc; exact tame_oof
      | succ f ih => intro acc; rw [progP]; exact tame_look fun w => tame_ite (tame_ret _) (tame_bind (Eager.tame (p := declP f) (eager_decl f)) fun d => ih _)
    exact (this _ _ h (Nat.zero_le _)).2
  have := bigE
  omega
set_option maxRecDepth 100000 in
theorem parse_err {s : Tx} {n e : Nat} (he : e ≠ 0) (hlex : CallsP Tryz.prog Lw 6 [txD s] (.tup [.list 6 [], nD n, nD e])) : CallsP Tryz.prog Lw 8 [txD s] (.tup [.list 15 [], nD n, nD e]) := by
  refine callsP_of gs_lw Tryz.func8 rfl Tryz.ntmps8 rfl fun w0 S0 stab => ?_
  refine hits_seq ?_
  refine hits_region ?_
  refine sq (f_assign rfl (lt rfl)) rfl rfl ?_
  refine sq (f_assign rfl (lt rfl)) rfl rfl ?_
  refine sq (f_assign rfl (lt rfl)) rfl rfl ?_
  refine hits_nil ?_
  refine to_next ?_
  refine hits_seq ?_
  refine hits_region ?_
  refine sq (f_move rfl (lt rfl)) rfl rfl ?_
  refine sq (f_call en6 rfl hlex (lt rfl)) rfl rfl ?_
  refine sq (f_move rfl (lt rfl)) rfl rfl ?_
  refine sq (f_extract rfl rfl (lt rfl)) rfl rfl ?_
  refine sq (f_extract rfl rfl (lt rfl)) rfl rfl ?_
  refine sq (f_extract rfl rfl (lt rfl)) rfl rfl ?_
  refine sq (f_alloc zc22 (lt rfl)) rfl rfl ?_
  refine sq (f_store kd22 rfl rfl rfl rfl rfl) rfl rfl ?_
  refine sq (f_assign rfl (lt rfl)) rfl rfl ?_
  refine sq (f_assign rfl (lt rfl)) rfl rfl ?_
  refine hits_nil ?_
  refine to_next ?_
  refine hits_seq ?_
  refine hits_seq ?_
  refine hits_region ?_
  refine sq (f_move rfl (lt rfl)) rfl rfl ?_
  refine sq (f_bin rfl rfl (bT (bne_iff_ne.mpr (by omega))) (lt rfl)) rfl rfl ?_
  refine hits_nil ?_
  refine to_next ?_
  refine hits_cond rfl (fun c0 => ?_) (fun c0 => absurd c0 Bool.false_ne_true.symm)
  refine hits_seq ?_
  refine hits_region ?_
  refine sq (f_move rfl (lt rfl)) rfl rfl ?_
  refine sq (f_move rfl (lt rfl)) rfl rfl ?_
  refine sq (f_assign rfl (lt rfl)) rfl rfl ?_
  refine sq (f_assign rfl (lt rfl)) rfl rfl ?_
  refine sq (f_assign rfl (lt rfl)) rfl rfl ?_
  refine hits_nil ?_
  refine to_next ?_
  refine hits_ret ?_
  refine to_ret ?_
  refine hits_slotD 2 (q' := .list 15 []) rfl nil_list ?_
  exact hits_done (.inl rfl) rfl rfl rfl
theorem parse_c (s : Tx) : CallsP Tryz.prog Lw 8 [txD s] (parsedD (parseS s)) := by
  unfold parseS
  by_cases h : 65536 < s.length
  · rw [if_pos h]
    exact parse_err (n := 0) (e := 3) (by decide) (words_big (B s) (by rw [B_size]; exact h))
  · rw [if_neg h]
    have hw := words_c s (by omega)
    cases hW : W s 0 with
    | inl n => rw [hW] at hw; exact parse_err (n := n) (e := 4) (by decide) hw
    | inr L =>
      rw [hW] at hw
      obtain ⟨h1, h2, h3, h4⟩ := W_facts hW
      exact parse_words hw (by omega) h2 h3 h4 rfl (prog_sure (by omega)) (big_count (by omega))
end Go.Proofs.YtbgeejmhkmjfdaaGreatDoor.Ln
