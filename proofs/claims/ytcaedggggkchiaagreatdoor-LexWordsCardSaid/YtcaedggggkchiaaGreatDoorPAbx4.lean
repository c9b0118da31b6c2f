/- The law LexWords over data. -/
import Derived.Test.YtcaedggggkchiaaGreatDoorAbLexW
import Derived.Test.YtcaedggggkchiaaGreatDoorAbWordsN
import Derived.Test.YtcaedggggkchiaaGreatDoorAbRefS
namespace Go.Proofs.YtcaedggggkchiaaGreatDoor.Ln
open Go Go.RowKit Go.Ab Go.Proofs 
set_option linter.unusedVariables false
set_option linter.unusedSimpArgs false


theorem lexwords_c (s : ByteArray) : CallsP Tryz.prog Lw 4 [.sc (.string s)] (.sc (.bool true)) := by
  by_cases hs : 65536 < s.size
  · exact lexwords_gen (l := []) (n := 0) (e := 3) (words_nb s hs) (rwords_big s hs) (Nat.zero_le _)
  have hl : s.data.toList.length ≤ 65536 := by rw [Array.length_toList]; exact Nat.le_of_not_lt hs
  have hr := rwords_c s.data.toList hl
  have hB := B_of s
  revert hr hl hB
  generalize s.data.toList = l
  intro hl hr hB
  subst hB
  cases hW : W l 0 with
  | inl k => rw [hW] at hr; exact lexwords_gen (l := []) (words_ne l hl hW) hr (Nat.zero_le _)
  | inr m => rw [hW] at hr; exact lexwords_gen (words_n l hl hW) hr (Nat.le_trans (W_lines (l.length + 1) l 0 m (Nat.lt_succ_self _) hW).1 hl)
theorem pointsmanlaw07_LexWords.calls (a0 : ByteArray) (r : Bool) (w : World) (hg : Lw w) (hk : r = true) : Calls Tryz.prog 4 #[.string a0] w fun e w' => e = .returned (.bool r) ∧ Below w.heap.size w w' := by
  subst hk
  exact (lexwords_c a0).calls rfl rfl w hg

end Go.Proofs.YtcaedggggkchiaaGreatDoor.Ln
