/- Closed facts of the row of the law LexJoins, one by one. -/
import Derived.Test.YtcaedggggkchiaaGreatDoorRows
import Derived.Test.YtcaedggggkchiaaGreatDoorFacts
namespace Go.Proofs.YtcaedggggkchiaaGreatDoor.lexJoins
open Go
theorem and2 {a b : Bool} (ha : a = true) (hb : b = true) : (a && b) = true := by rw [ha, hb]; rfl
theorem fact0 : (Rows.lexJoinsRow.wf (OpenSpec.ofChange Rows.lexJoinsSpec)) = true := by kernel_rfl
theorem fact3 : (Tryz.f7.params.all (Tryz.prog.readableRec ·)) = true := by kernel_rfl
theorem fact4 : (namedTie Tryz.prog Rows.lexJoinsRow.named Rows.lexJoinsSpec.vars) = true := by kernel_rfl
theorem fact5 : ((Rows.lexJoinsRow.stops == [])) = true := by kernel_rfl
theorem fact7 : ((Rows.lexJoinsRow.knobs == [])) = true := by kernel_rfl
theorem fact9 : ((Rows.lexJoinsRow.inPlace == Tryz.prog.inPlace 7)) = true := by kernel_rfl
theorem fact10 : ((Rows.lexJoinsRow.unfollowed == Tryz.prog.unfollowed 7)) = true := by kernel_rfl
theorem fact11 : ((Rows.lexJoinsRow.recurses == Tryz.prog.recurses 7)) = true := by kernel_rfl
theorem fact12 : ((Rows.lexJoinsRow.named == Tryz.prog.varsNamed 7)) = true := by kernel_rfl
theorem fact13 : ((Rows.lexJoinsRow.maps == (Tryz.f7.params.toList ++ Rows.lexJoinsSpec.plain.varTypes Tryz.prog).any (Tryz.prog.mapsRec ·))) = true := by kernel_rfl
theorem fact14 : ((Rows.lexJoinsRow.ifaces == (Tryz.f7.params.toList ++ Rows.lexJoinsSpec.plain.varTypes Tryz.prog).any (Tryz.prog.ifacesRec ·))) = true := by kernel_rfl
theorem fact15 : ((Rows.lexJoinsRow.mapsOut == Tryz.prog.mapsAmong Tryz.f7.resultTypes.toList)) = true := by kernel_rfl
theorem fact16 : ((Rows.lexJoinsRow.loops == (Tryz.f7.params.toList ++ Rows.lexJoinsSpec.plain.varTypes Tryz.prog).any (Tryz.prog.loopsFrom ·))) = true := by kernel_rfl
theorem fact17 : ((Rows.lexJoinsRow.wideKeys == (Tryz.f7.params.toList ++ Rows.lexJoinsSpec.plain.varTypes Tryz.prog ++ Tryz.f7.resultTypes.toList).any (Tryz.prog.wideKeysFrom ·))) = true := by kernel_rfl
theorem fact18 : (Rows.lexJoinsSpec.vars.all (Tryz.prog.varReadable ·)) = true := by kernel_rfl
theorem fact19 : (Tryz.f7.resultTypes.all (fun t => Tryz.prog.readableRec t && decide (t < Tryz.prog.types.size))) = true := by kernel_rfl
theorem fact20 : ((Rows.lexJoinsRow.ifacesOut == Tryz.f7.resultTypes.toList.any (Tryz.prog.ifacesRec ·))) = true := by kernel_rfl
theorem fact21 : ((Rows.lexJoinsRow.loopsOut == Tryz.f7.resultTypes.toList.any (Tryz.prog.loopsFrom ·))) = true := by kernel_rfl
theorem fact22 : ((Rows.lexJoinsRow.plainKeys == Tryz.prog.plainKeys)) = true := by kernel_rfl
theorem fact23 : (Rows.lexJoinsRow.shortTexts.isNone) = true := by kernel_rfl
theorem fact26 : ((Rows.lexJoinsRow.lifted == Tryz.prog.liftsFinal)) = true := by kernel_rfl
theorem fact27 : ((Tryz.prog.make == some Rows.lexJoinsRow.make)) = true := by kernel_rfl
theorem fact28 : ((Rows.lexJoinsRow.kinds == (if Rows.lexJoinsRow.domain.isEmpty then [] else Tryz.f7.params.toList.map fun t => match Tryz.prog.underlying t with | some (.int k) => some k | _ => none))) = true := by kernel_rfl
theorem fact29 : ((Rows.lexJoinsRow.pinned == Rows.lexJoinsRow.pinnedBy)) = true := by kernel_rfl
theorem fact30 : ((Rows.lexJoinsRow.veiled == (Tryz.f7.params.toList ++ Rows.lexJoinsSpec.plain.varTypes Tryz.prog ++ Tryz.f7.resultTypes.toList).any (Tryz.prog.veiledRec ·))) = true := by kernel_rfl
theorem fact31 : (Rows.lexJoinsRow.veiledFits Tryz.prog Tryz.f7.params.toList (Tryz.f7.params.toList ++ Rows.lexJoinsSpec.plain.varTypes Tryz.prog ++ Tryz.f7.resultTypes.toList)) = true := by kernel_rfl
set_option maxRecDepth 100000 in
theorem facts : joinedFacts Tryz.prog 7 Tryz.f7 Rows.lexJoinsSpec Rows.lexJoinsRow = true := by
  unfold joinedFacts
  exact (and2 (and2 (and2 (and2 (and2 (and2 (and2 (and2 (and2 (and2 (and2 (and2 (and2 (and2 (and2 (and2 (and2 (and2 (and2 (and2 (and2 (and2 (and2 (and2 (and2 (and2 (and2 (and2 (and2 (and2 (and2 fact0 Facts.fact1) Facts.fact2) fact3) fact4) fact5) Facts.fact6) fact7) Facts.fact8) fact9) fact10) fact11) fact12) fact13) fact14) fact15) fact16) fact17) fact18) fact19) fact20) fact21) fact22) fact23) Facts.fact24) Facts.fact25) fact26) fact27) fact28) fact29) fact30) fact31)
end Go.Proofs.YtcaedggggkchiaaGreatDoor.lexJoins
