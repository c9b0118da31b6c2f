/- The tied card of the law ParseJoins. -/
import Derived.Test.YtogodijfdkffaaaGreatDoorLowParseJoins
import Derived.Test.YtogodijfdkffaaaGreatDoorTie
import Derived.Test.YtogodijfdkffaaaGreatDoorCards
import Derived.SevenTiedAt
set_option linter.unusedVariables false
set_option linter.unusedSimpArgs false
set_option maxRecDepth 100000
namespace Go.Proofs.YtogodijfdkffaaaGreatDoor.parseJoins
open Go.ChangeShapes Go.WideShapes Go.ChangeAt Go.RowKit
theorem proved : Rows.ParseJoinsCardSaid :=
  Claim7.holds_tied_plain_at .later [] [.data, .data, .data, .data, .sentinel, .sentinel, .listed, .data, .pinned] true (true, "9bf4f1248ce192c56e4d57f9b05fa9c51d82821eb8401b06325e26db046d7837") true over (fun _ h => by cases h) (by kernel_rfl) (fun _ h => by cases h) parseJoins_row_tie rfl ⟨rfl, rfl⟩ (by kernel_rfl) rfl
    (fun f fn hf hfn => by
      obtain rfl : f = 4 := Option.some.inj ((show Tryz.prog.funcNamed "pointsman/pointsmanlaw08.ParseJoins" = some 4 by kernel_rfl).symm.trans hf) |>.symm
      obtain rfl : fn = Tryz.f4 := (Option.some.inj (Tryz.func4.symm.trans hfn)).symm
      refine ⟨by kernel_rfl, fun j t ht => ?_⟩
      rw [Tryz.params4] at ht
      rcases j with _ | _ | j
      · obtain rfl : t = 9 := by simpa using ht.symm
        exact (show Tryz.prog.wantsStandIn 9 = false by kernel_rfl)
      · obtain rfl : t = 9 := by simpa using ht.symm
        exact (show Tryz.prog.wantsStandIn 9 = false by kernel_rfl)
      · simp at ht
    )
    (by kernel_rfl)
#print axioms proved
end Go.Proofs.YtogodijfdkffaaaGreatDoor.parseJoins
namespace Go.Proofs.YtogodijfdkffaaaGreatDoor
theorem parseJoins_holds : Rows.ParseJoinsCardSaid := parseJoins.proved
end Go.Proofs.YtogodijfdkffaaaGreatDoor
