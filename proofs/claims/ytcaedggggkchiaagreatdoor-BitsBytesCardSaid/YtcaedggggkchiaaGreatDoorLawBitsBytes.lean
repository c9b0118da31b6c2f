/- The tied card of the law BitsBytes. -/
import Derived.Test.YtcaedggggkchiaaGreatDoorLowBitsBytes
import Derived.Test.YtcaedggggkchiaaGreatDoorTie
import Derived.Test.YtcaedggggkchiaaGreatDoorCards
import Derived.SevenTiedAt
namespace Go.Proofs.YtcaedggggkchiaaGreatDoor.bitsBytes
open Go.ChangeShapes Go.WideShapes Go.ChangeAt Go.RowKit
theorem proved : Rows.BitsBytesCardSaid :=
  Claim7.holds_tied_plain_at .later [] [.data, .data, .data] true (true, "69cc9345876f66e168aa8f36b9e0f65d6a4446da3b8b512935da6afe4788d049") true over (fun _ h => by cases h) (by kernel_rfl) (fun _ h => by cases h) bitsBytes_row_tie rfl ⟨rfl, rfl⟩ (by kernel_rfl) rfl
    (fun f fn hf hfn => by
      obtain rfl : f = 3 := Option.some.inj ((show Tryz.prog.funcNamed "pointsman/pointsmanlaw01.BitsBytes" = some 3 by kernel_rfl).symm.trans hf) |>.symm
      obtain rfl : fn = Tryz.f3 := (Option.some.inj (Tryz.func3.symm.trans hfn)).symm
      refine ⟨by kernel_rfl, fun j t ht => ?_⟩
      rw [Tryz.params3] at ht
      rcases j with _ | _ | _ | j
      · obtain rfl : t = 24 := by simpa using ht.symm
        exact (show Tryz.prog.wantsStandIn 24 = false by kernel_rfl)
      · obtain rfl : t = 3 := by simpa using ht.symm
        exact (show Tryz.prog.wantsStandIn 3 = false by kernel_rfl)
      · obtain rfl : t = 25 := by simpa using ht.symm
        exact (show Tryz.prog.wantsStandIn 25 = false by kernel_rfl)
      · simp at ht
    )
    (by kernel_rfl)
#print axioms proved
end Go.Proofs.YtcaedggggkchiaaGreatDoor.bitsBytes
namespace Go.Proofs.YtcaedggggkchiaaGreatDoor
/-- The tied card, under a short name, for the claim. -/
theorem bitsBytes_holds : Rows.BitsBytesCardSaid := bitsBytes.proved
end Go.Proofs.YtcaedggggkchiaaGreatDoor
