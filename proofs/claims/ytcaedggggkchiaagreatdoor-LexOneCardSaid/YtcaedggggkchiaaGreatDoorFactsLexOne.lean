/- Closed facts of the row of the law LexOne, one by one. -/
import Derived.Test.YtcaedggggkchiaaGreatDoorRows
import Derived.Test.YtcaedggggkchiaaGreatDoorFacts
namespace Go.Proofs.YtcaedggggkchiaaGreatDoor.lexOne
open Go
theorem and2 {a b : Bool} (ha : a = true) (hb : b = true) : (a && b) = true := by rw [ha, hb]; rfl
theorem fact0 : (Rows.lexOneRow.wf (OpenSpec.ofChange Rows.lexOneSpec)) = true := by kernel_rfl
theorem fact3 : (Tryz.f6.params.all (Tryz.prog.readableRec ·)) = true := by kernel_rfl
theorem fact4 : (namedTie Tryz.prog Rows.lexOneRow.named Rows.lexOneSpec.vars) = true := by kernel_rfl
theorem fact5 : ((Rows.lexOneRow.stops == [])) = true := by kernel_rfl
theorem fact7 : ((Rows.lexOneRow.knobs == [])) = true := by kernel_rfl
theorem fact9 : ((Rows.lexOneRow.inPlace == Tryz.prog.inPlace 6)) = true := by kernel_rfl
theorem fact10 : ((Rows.lexOneRow.unfollowed == Tryz.prog.unfollowed 6)) = true := by kernel_rfl
theorem fact11 : ((Rows.lexOneRow.recurses == Tryz.prog.recurses 6)) = true := by kernel_rfl
theorem fact12 : ((Rows.lexOneRow.named == Tryz.prog.varsNamed 6)) = true := by kernel_rfl
theorem fact13 : ((Rows.lexOneRow.maps == (Tryz.f6.params.toList ++ Rows.lexOneSpec.plain.varTypes Tryz.prog).any (Tryz.prog.mapsRec ·))) = true := by kernel_rfl
theorem fact14 : ((Rows.lexOneRow.ifaces == (Tryz.f6.params.toList ++ Rows.lexOneSpec.plain.varTypes Tryz.prog).any (Tryz.prog.ifacesRec ·))) = true := by kernel_rfl
theorem fact15 : ((Rows.lexOneRow.mapsOut == Tryz.prog.mapsAmong Tryz.f6.resultTypes.toList)) = true := by kernel_rfl
theorem fact16 : ((Rows.lexOneRow.loops == (Tryz.f6.params.toList ++ Rows.lexOneSpec.plain.varTypes Tryz.prog).any (Tryz.prog.loopsFrom ·))) = true := by kernel_rfl
theorem fact17 : ((Rows.lexOneRow.wideKeys == (Tryz.f6.params.toList ++ Rows.lexOneSpec.plain.varTypes Tryz.prog ++ Tryz.f6.resultTypes.toList).any (Tryz.prog.wideKeysFrom ·))) = true := by kernel_rfl
theorem fact18 : (Rows.lexOneSpec.vars.all (Tryz.prog.varReadable ·)) = true := by kernel_rfl
theorem fact19 : (Tryz.f6.resultTypes.all (fun t => Tryz.prog.readableRec t && decide (t < Tryz.prog.types.size))) = true := by kernel_rfl
theorem fact20 : ((Rows.lexOneRow.ifacesOut == Tryz.f6.resultTypes.toList.any (Tryz.prog.ifacesRec ·))) = true := by kernel_rfl
theorem fact21 : ((Rows.lexOneRow.loopsOut == Tryz.f6.resultTypes.toList.any (Tryz.prog.loopsFrom ·))) = true := by kernel_rfl
theorem fact22 : ((Rows.lexOneRow.plainKeys == Tryz.prog.plainKeys)) = true := by kernel_rfl
theorem fact23 : (Rows.lexOneRow.shortTexts.isNone) = true := by kernel_rfl
theorem fact26 : ((Rows.lexOneRow.lifted == Tryz.prog.liftsFinal)) = true := by kernel_rfl
theorem fact27 : ((Tryz.prog.make == some Rows.lexOneRow.make)) = true := by kernel_rfl
theorem fact28 : ((Rows.lexOneRow.kinds == (if Rows.lexOneRow.domain.isEmpty then [] else Tryz.f6.params.toList.map fun t => match Tryz.prog.underlying t with | some (.int k) => some k | _ => none))) = true := by kernel_rfl
theorem fact29 : ((Rows.lexOneRow.pinned == Rows.lexOneRow.pinnedBy)) = true := by kernel_rfl
theorem fact30 : ((Rows.lexOneRow.veiled == (Tryz.f6.params.toList ++ Rows.lexOneSpec.plain.varTypes Tryz.prog ++ Tryz.f6.resultTypes.toList).any (Tryz.prog.veiledRec ·))) = true := by kernel_rfl
theorem fact31 : (Rows.lexOneRow.veiledFits Tryz.prog Tryz.f6.params.toList (Tryz.f6.params.toList ++ Rows.lexOneSpec.plain.varTypes Tryz.prog ++ Tryz.f6.resultTypes.toList)) = true := by kernel_rfl
set_option maxRecDepth 100000 in
theorem facts : joinedFacts Tryz.prog 6 Tryz.f6 Rows.lexOneSpec Rows.lexOneRow = true := by
  unfold joinedFacts
  exact (and2 (and2 (and2 (and2 (and2 (and2 (and2 (and2 (and2 (and2 (and2 (and2 (and2 (and2 (and2 (and2 (and2 (and2 (and2 (and2 (and2 (and2 (and2 (and2 (and2 (and2 (and2 (and2 (and2 (and2 (and2 fact0 Facts.fact1) Facts.fact2) fact3) fact4) fact5) Facts.fact6) fact7) Facts.fact8) fact9) fact10) fact11) fact12) fact13) fact14) fact15) fact16) fact17) fact18) fact19) fact20) fact21) fact22) fact23) Facts.fact24) Facts.fact25) fact26) fact27) fact28) fact29) fact30) fact31)
end Go.Proofs.YtcaedggggkchiaaGreatDoor.lexOne
