/- The tied card of the law LexWords. -/
import Derived.Test.YtcaedggggkchiaaGreatDoorLowLexWords
import Derived.Test.YtcaedggggkchiaaGreatDoorTie
import Derived.Test.YtcaedggggkchiaaGreatDoorCards
import Derived.SevenTiedAt
namespace Go.Proofs.YtcaedggggkchiaaGreatDoor.lexWords
open Go.ChangeShapes Go.WideShapes Go.ChangeAt Go.RowKit
theorem proved : Rows.LexWordsCardSaid :=
  Claim7.holds_tied_plain_at .later [] [.data, .data, .data, .data, .sentinel, .sentinel, .listed, .data, .pinned] true (true, "69cc9345876f66e168aa8f36b9e0f65d6a4446da3b8b512935da6afe4788d049") true over (fun _ h => by cases h) (by kernel_rfl) (fun _ h => by cases h) lexWords_row_tie rfl ⟨rfl, rfl⟩ (by kernel_rfl) rfl
    (fun f fn hf hfn => by
      obtain rfl : f = 4 := Option.some.inj ((show Tryz.prog.funcNamed "pointsman/pointsmanlaw07.LexWords" = some 4 by kernel_rfl).symm.trans hf) |>.symm
      obtain rfl : fn = Tryz.f4 := (Option.some.inj (Tryz.func4.symm.trans hfn)).symm
      refine ⟨by kernel_rfl, fun j t ht => ?_⟩
      rw [Tryz.params4] at ht
      rcases j with _ | j
      · obtain rfl : t = 9 := by simpa using ht.symm
        exact (show Tryz.prog.wantsStandIn 9 = false by kernel_rfl)
      · simp at ht
    )
    (by kernel_rfl)
#print axioms proved
end Go.Proofs.YtcaedggggkchiaaGreatDoor.lexWords
namespace Go.Proofs.YtcaedggggkchiaaGreatDoor
/-- The tied card, under a short name, for the claim. -/
theorem lexWords_holds : Rows.LexWordsCardSaid := lexWords.proved
end Go.Proofs.YtcaedggggkchiaaGreatDoor
