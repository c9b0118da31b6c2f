/- The tied card of the law LexOne. -/
import Derived.Test.YtcaedggggkchiaaGreatDoorLowLexOne
import Derived.Test.YtcaedggggkchiaaGreatDoorTie
import Derived.Test.YtcaedggggkchiaaGreatDoorCards
import Derived.SevenTiedAt
namespace Go.Proofs.YtcaedggggkchiaaGreatDoor.lexOne
open Go.ChangeShapes Go.WideShapes Go.ChangeAt Go.RowKit
theorem proved : Rows.LexOneCardSaid :=
  Claim7.holds_tied_plain_at .later [] [.data, .data, .data, .data, .sentinel, .sentinel, .listed, .data, .pinned] true (true, "69cc9345876f66e168aa8f36b9e0f65d6a4446da3b8b512935da6afe4788d049") true over (fun _ h => by cases h) (by kernel_rfl) (fun _ h => by cases h) lexOne_row_tie rfl ⟨rfl, rfl⟩ (by kernel_rfl) rfl
    (fun f fn hf hfn => by
      obtain rfl : f = 6 := Option.some.inj ((show Tryz.prog.funcNamed "pointsman/pointsmanlaw07.LexOne" = some 6 by kernel_rfl).symm.trans hf) |>.symm
      obtain rfl : fn = Tryz.f6 := (Option.some.inj (Tryz.func6.symm.trans hfn)).symm
      refine ⟨by kernel_rfl, fun j t ht => ?_⟩
      rw [Tryz.params6] at ht
      rcases j with _ | _ | _ | j
      · obtain rfl : t = 79 := by simpa using ht.symm
        exact (show Tryz.prog.wantsStandIn 79 = false by kernel_rfl)
      · obtain rfl : t = 24 := by simpa using ht.symm
        exact (show Tryz.prog.wantsStandIn 24 = false by kernel_rfl)
      · obtain rfl : t = 5 := by simpa using ht.symm
        exact (show Tryz.prog.wantsStandIn 5 = false by kernel_rfl)
      · simp at ht
    )
    (by kernel_rfl)
#print axioms proved
end Go.Proofs.YtcaedggggkchiaaGreatDoor.lexOne
namespace Go.Proofs.YtcaedggggkchiaaGreatDoor
/-- The tied card, under a short name, for the claim. -/
theorem lexOne_holds : Rows.LexOneCardSaid := lexOne.proved
end Go.Proofs.YtcaedggggkchiaaGreatDoor
