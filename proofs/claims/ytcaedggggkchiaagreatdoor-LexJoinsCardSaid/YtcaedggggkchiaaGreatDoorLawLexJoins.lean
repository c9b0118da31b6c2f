/- The tied card of the law LexJoins. -/
import Derived.Test.YtcaedggggkchiaaGreatDoorLowLexJoins
import Derived.Test.YtcaedggggkchiaaGreatDoorTie
import Derived.Test.YtcaedggggkchiaaGreatDoorCards
import Derived.SevenTiedAt
namespace Go.Proofs.YtcaedggggkchiaaGreatDoor.lexJoins
open Go.ChangeShapes Go.WideShapes Go.ChangeAt Go.RowKit
theorem proved : Rows.LexJoinsCardSaid :=
  Claim7.holds_tied_plain_at .later [] [.data, .data, .data, .data, .sentinel, .sentinel, .listed, .data, .pinned] true (true, "69cc9345876f66e168aa8f36b9e0f65d6a4446da3b8b512935da6afe4788d049") true over (fun _ h => by cases h) (by kernel_rfl) (fun _ h => by cases h) lexJoins_row_tie rfl ⟨rfl, rfl⟩ (by kernel_rfl) rfl
    (fun f fn hf hfn => by
      obtain rfl : f = 7 := Option.some.inj ((show Tryz.prog.funcNamed "pointsman/pointsmanlaw07.LexJoins" = some 7 by kernel_rfl).symm.trans hf) |>.symm
      obtain rfl : fn = Tryz.f7 := (Option.some.inj (Tryz.func7.symm.trans hfn)).symm
      refine ⟨by kernel_rfl, fun j t ht => ?_⟩
      rw [Tryz.params7] at ht
      rcases j with _ | _ | j
      · obtain rfl : t = 9 := by simpa using ht.symm
        exact (show Tryz.prog.wantsStandIn 9 = false by kernel_rfl)
      · obtain rfl : t = 9 := by simpa using ht.symm
        exact (show Tryz.prog.wantsStandIn 9 = false by kernel_rfl)
      · simp at ht
    )
    (by kernel_rfl)
#print axioms proved
end Go.Proofs.YtcaedggggkchiaaGreatDoor.lexJoins
namespace Go.Proofs.YtcaedggggkchiaaGreatDoor
/-- The tied card, under a short name, for the claim. -/
theorem lexJoins_holds : Rows.LexJoinsCardSaid := lexJoins.proved
end Go.Proofs.YtcaedggggkchiaaGreatDoor
