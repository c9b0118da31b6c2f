/- The tied card of the law ParseLines. -/
import Derived.Test.YtbgeejmhkmjfdaaGreatDoorLowParseLines
import Derived.Test.YtbgeejmhkmjfdaaGreatDoorTie
import Derived.Test.YtbgeejmhkmjfdaaGreatDoorCards
import Derived.SevenTiedAt
namespace Go.Proofs.YtbgeejmhkmjfdaaGreatDoor.parseLines
open Go.ChangeShapes Go.WideShapes Go.ChangeAt Go.RowKit
theorem proved : Rows.ParseLinesCardSaid :=
  Claim7.holds_tied_plain_at .later [] [.data, .data, .data, .data, .sentinel, .sentinel, .listed, .data, .pinned] true (true, "7bb11997a8cd3f922df2aad5956e305eb690e4bab5bae723c8981faefc24d072") true over (fun _ h => by cases h) (by kernel_rfl) (fun _ h => by cases h) parseLines_row_tie rfl ⟨rfl, rfl⟩ (by kernel_rfl) rfl
    (fun f fn hf hfn => by
      obtain rfl : f = 3 := Option.some.inj ((show Tryz.prog.funcNamed "pointsman/pointsmanlaw08.ParseLines" = some 3 by kernel_rfl).symm.trans hf) |>.symm
      obtain rfl : fn = Tryz.f3 := (Option.some.inj (Tryz.func3.symm.trans hfn)).symm
      refine ⟨by kernel_rfl, fun j t ht => ?_⟩
      rw [Tryz.params3] at ht
      rcases j with _ | j
      · obtain rfl : t = 9 := by simpa using ht.symm
        exact (show Tryz.prog.wantsStandIn 9 = false by kernel_rfl)
      · simp at ht
    )
    (by kernel_rfl)
#print axioms proved
end Go.Proofs.YtbgeejmhkmjfdaaGreatDoor.parseLines
namespace Go.Proofs.YtbgeejmhkmjfdaaGreatDoor
/-- The tied card, under a short name, for the claim. -/
theorem parseLines_holds : Rows.ParseLinesCardSaid := parseLines.proved
end Go.Proofs.YtbgeejmhkmjfdaaGreatDoor
