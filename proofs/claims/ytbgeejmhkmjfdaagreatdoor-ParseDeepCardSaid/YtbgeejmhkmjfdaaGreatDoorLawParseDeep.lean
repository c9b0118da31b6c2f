/- The tied card of the law ParseDeep. -/
import Derived.Test.YtbgeejmhkmjfdaaGreatDoorLowParseDeep
import Derived.Test.YtbgeejmhkmjfdaaGreatDoorTie
import Derived.Test.YtbgeejmhkmjfdaaGreatDoorCards
import Derived.SevenTiedAt
namespace Go.Proofs.YtbgeejmhkmjfdaaGreatDoor.parseDeep
open Go.ChangeShapes Go.WideShapes Go.ChangeAt Go.RowKit
theorem proved : Rows.ParseDeepCardSaid :=
  Claim7.holds_tied_plain_at .later [] [.data, .data, .data, .data, .sentinel, .sentinel, .listed, .data, .pinned] true (true, "7bb11997a8cd3f922df2aad5956e305eb690e4bab5bae723c8981faefc24d072") true over (fun _ h => by cases h) (by kernel_rfl) (fun _ h => by cases h) parseDeep_row_tie rfl ⟨rfl, rfl⟩ (by kernel_rfl) rfl
    (fun f fn hf hfn => by
      obtain rfl : f = 4 := Option.some.inj ((show Tryz.prog.funcNamed "pointsman/pointsmanlaw08.ParseDeep" = some 4 by kernel_rfl).symm.trans hf) |>.symm
      obtain rfl : fn = Tryz.f4 := (Option.some.inj (Tryz.func4.symm.trans hfn)).symm
      refine ⟨by kernel_rfl, fun j t ht => ?_⟩
      rw [Tryz.params4] at ht
      rcases j with _ | _ | _ | j
      · obtain rfl : t = 39 := by simpa using ht.symm
        exact (show Tryz.prog.wantsStandIn 39 = false by kernel_rfl)
      · obtain rfl : t = 5 := by simpa using ht.symm
        exact (show Tryz.prog.wantsStandIn 5 = false by kernel_rfl)
      · obtain rfl : t = 5 := by simpa using ht.symm
        exact (show Tryz.prog.wantsStandIn 5 = false by kernel_rfl)
      · simp at ht
    )
    (by kernel_rfl)
#print axioms proved
end Go.Proofs.YtbgeejmhkmjfdaaGreatDoor.parseDeep
namespace Go.Proofs.YtbgeejmhkmjfdaaGreatDoor
theorem parseDeep_holds : Rows.ParseDeepCardSaid := parseDeep.proved
end Go.Proofs.YtbgeejmhkmjfdaaGreatDoor
