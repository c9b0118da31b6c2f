/- Closed facts of the row of the law ParseJoins, one by one. -/
import Derived.Test.YtogodijfdkffaaaGreatDoorRows
import Derived.Test.YtogodijfdkffaaaGreatDoorFacts
set_option linter.unusedVariables false
set_option linter.unusedSimpArgs false
set_option maxRecDepth 100000
namespace Go.Proofs.YtogodijfdkffaaaGreatDoor.parseJoins
open Go
theorem and2 {a b : Bool} (ha : a = true) (hb : b = true) : (a && b) = true := by rw [ha, hb]; rfl
theorem fact0 : (Rows.parseJoinsRow.wf (OpenSpec.ofChange Rows.parseJoinsSpec)) = true := by kernel_rfl
theorem fact3 : (Tryz.f4.params.all (Tryz.prog.readableRec ·)) = true := by kernel_rfl
theorem fact4 : (namedTie Tryz.prog Rows.parseJoinsRow.named Rows.parseJoinsSpec.vars) = true := by kernel_rfl
theorem fact5 : ((Rows.parseJoinsRow.stops == [])) = true := by kernel_rfl
theorem fact7 : ((Rows.parseJoinsRow.knobs == [])) = true := by kernel_rfl
theorem fact9 : ((Rows.parseJoinsRow.inPlace == Tryz.prog.inPlace 4)) = true := by kernel_rfl
theorem fact10 : ((Rows.parseJoinsRow.unfollowed == Tryz.prog.unfollowed 4)) = true := by kernel_rfl
theorem fact11 : ((Rows.parseJoinsRow.recurses == Tryz.prog.recurses 4)) = true := by kernel_rfl
theorem fact12 : ((Rows.parseJoinsRow.named == Tryz.prog.varsNamed 4)) = true := by kernel_rfl
theorem fact13 : ((Rows.parseJoinsRow.maps == (Tryz.f4.params.toList ++ Rows.parseJoinsSpec.plain.varTypes Tryz.prog).any (Tryz.prog.mapsRec ·))) = true := by kernel_rfl
theorem fact14 : ((Rows.parseJoinsRow.ifaces == (Tryz.f4.params.toList ++ Rows.parseJoinsSpec.plain.varTypes Tryz.prog).any (Tryz.prog.ifacesRec ·))) = true := by kernel_rfl
theorem fact15 : ((Rows.parseJoinsRow.mapsOut == Tryz.prog.mapsAmong Tryz.f4.resultTypes.toList)) = true := by kernel_rfl
theorem fact16 : ((Rows.parseJoinsRow.loops == (Tryz.f4.params.toList ++ Rows.parseJoinsSpec.plain.varTypes Tryz.prog).any (Tryz.prog.loopsFrom ·))) = true := by kernel_rfl
theorem fact17 : ((Rows.parseJoinsRow.wideKeys == (Tryz.f4.params.toList ++ Rows.parseJoinsSpec.plain.varTypes Tryz.prog ++ Tryz.f4.resultTypes.toList).any (Tryz.prog.wideKeysFrom ·))) = true := by kernel_rfl
theorem fact18 : (Rows.parseJoinsSpec.vars.all (Tryz.prog.varReadable ·)) = true := by kernel_rfl
theorem fact19 : (Tryz.f4.resultTypes.all (fun t => Tryz.prog.readableRec t && decide (t < Tryz.prog.types.size))) = true := by kernel_rfl
theorem fact20 : ((Rows.parseJoinsRow.ifacesOut == Tryz.f4.resultTypes.toList.any (Tryz.prog.ifacesRec ·))) = true := by kernel_rfl
theorem fact21 : ((Rows.parseJoinsRow.loopsOut == Tryz.f4.resultTypes.toList.any (Tryz.prog.loopsFrom ·))) = true := by kernel_rfl
theorem fact22 : ((Rows.parseJoinsRow.plainKeys == Tryz.prog.plainKeys)) = true := by kernel_rfl
theorem fact23 : (Rows.parseJoinsRow.shortTexts.isNone) = true := by kernel_rfl
theorem fact26 : ((Rows.parseJoinsRow.lifted == Tryz.prog.liftsFinal)) = true := by kernel_rfl
theorem fact27 : ((Tryz.prog.make == some Rows.parseJoinsRow.make)) = true := by kernel_rfl
theorem fact28 : ((Rows.parseJoinsRow.kinds == (if Rows.parseJoinsRow.domain.isEmpty then [] else Tryz.f4.params.toList.map fun t => match Tryz.prog.underlying t with | some (.int k) => some k | _ => none))) = true := by kernel_rfl
theorem fact29 : ((Rows.parseJoinsRow.pinned == Rows.parseJoinsRow.pinnedBy)) = true := by kernel_rfl
theorem fact30 : ((Rows.parseJoinsRow.veiled == (Tryz.f4.params.toList ++ Rows.parseJoinsSpec.plain.varTypes Tryz.prog ++ Tryz.f4.resultTypes.toList).any (Tryz.prog.veiledRec ·))) = true := by kernel_rfl
theorem fact31 : (Rows.parseJoinsRow.veiledFits Tryz.prog Tryz.f4.params.toList (Tryz.f4.params.toList ++ Rows.parseJoinsSpec.plain.varTypes Tryz.prog ++ Tryz.f4.resultTypes.toList)) = true := by kernel_rfl
theorem facts : joinedFacts Tryz.prog 4 Tryz.f4 Rows.parseJoinsSpec Rows.parseJoinsRow = true := by
  unfold joinedFacts
  exact (and2 (and2 (and2 (and2 (and2 (and2 (and2 (and2 (and2 (and2 (and2 (and2 (and2 (and2 (and2 (and2 (and2 (and2 (and2 (and2 (and2 (and2 (and2 (and2 (and2 (and2 (and2 (and2 (and2 (and2 (and2 fact0 Facts.fact1) Facts.fact2) fact3) fact4) fact5) Facts.fact6) fact7) Facts.fact8) fact9) fact10) fact11) fact12) fact13) fact14) fact15) fact16) fact17) fact18) fact19) fact20) fact21) fact22) fact23) Facts.fact24) Facts.fact25) fact26) fact27) fact28) fact29) fact30) fact31)
end Go.Proofs.YtogodijfdkffaaaGreatDoor.parseJoins
