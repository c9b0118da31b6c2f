/- The tied card of the law ParseBlanks. -/
import Derived.Test.YtogodijfdkffaaaGreatDoorLowParseBlanks
import Derived.Test.YtogodijfdkffaaaGreatDoorTie
import Derived.Test.YtogodijfdkffaaaGreatDoorCards
import Derived.SevenTiedAt
set_option linter.unusedVariables false
set_option linter.unusedSimpArgs false
set_option maxRecDepth 100000
namespace Go.Proofs.YtogodijfdkffaaaGreatDoor.parseBlanks
open Go.ChangeShapes Go.WideShapes Go.ChangeAt Go.RowKit
theorem proved : Rows.ParseBlanksCardSaid :=
  Claim7.holds_tied_plain_at .later [] [.data, .data, .data, .data, .sentinel, .sentinel, .listed, .data, .pinned] true (true, "9bf4f1248ce192c56e4d57f9b05fa9c51d82821eb8401b06325e26db046d7837") true over (fun _ h => by cases h) (by kernel_rfl) (fun _ h => by cases h) parseBlanks_row_tie rfl ⟨rfl, rfl⟩ (by kernel_rfl) rfl
    (fun f fn hf hfn => by
      obtain rfl : f = 3 := Option.some.inj ((show Tryz.prog.funcNamed "pointsman/pointsmanlaw08.ParseBlanks" = some 3 by kernel_rfl).symm.trans hf) |>.symm
      obtain rfl : fn = Tryz.f3 := (Option.some.inj (Tryz.func3.symm.trans hfn)).symm
      refine ⟨by kernel_rfl, fun j t ht => ?_⟩
      rw [Tryz.params3] at ht
      rcases j with _ | j
      · obtain rfl : t = 9 := by simpa using ht.symm
        exact (show Tryz.prog.wantsStandIn 9 = false by kernel_rfl)
      · simp at ht
    )
    (by kernel_rfl)
#print axioms proved
end Go.Proofs.YtogodijfdkffaaaGreatDoor.parseBlanks
namespace Go.Proofs.YtogodijfdkffaaaGreatDoor
theorem parseBlanks_holds : Rows.ParseBlanksCardSaid := parseBlanks.proved
end Go.Proofs.YtogodijfdkffaaaGreatDoor
