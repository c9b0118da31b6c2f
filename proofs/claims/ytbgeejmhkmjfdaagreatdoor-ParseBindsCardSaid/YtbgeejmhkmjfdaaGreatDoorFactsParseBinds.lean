/- Closed facts of the row of the law ParseBinds, one by one. -/
import Derived.Test.YtbgeejmhkmjfdaaGreatDoorRows
import Derived.Test.YtbgeejmhkmjfdaaGreatDoorFacts
namespace Go.Proofs.YtbgeejmhkmjfdaaGreatDoor.parseBinds
open Go
theorem and2 {a b : Bool} (ha : a = true) (hb : b = true) : (a && b) = true := by rw [ha, hb]; rfl
theorem fact0 : (Rows.parseBindsRow.wf (OpenSpec.ofChange Rows.parseBindsSpec)) = true := by kernel_rfl
theorem fact3 : (Tryz.f5.params.all (Tryz.prog.readableRec ·)) = true := by kernel_rfl
theorem fact4 : (namedTie Tryz.prog Rows.parseBindsRow.named Rows.parseBindsSpec.vars) = true := by kernel_rfl
theorem fact5 : ((Rows.parseBindsRow.stops == [])) = true := by kernel_rfl
theorem fact7 : ((Rows.parseBindsRow.knobs == [])) = true := by kernel_rfl
theorem fact9 : ((Rows.parseBindsRow.inPlace == Tryz.prog.inPlace 5)) = true := by kernel_rfl
theorem fact10 : ((Rows.parseBindsRow.unfollowed == Tryz.prog.unfollowed 5)) = true := by kernel_rfl
theorem fact11 : ((Rows.parseBindsRow.recurses == Tryz.prog.recurses 5)) = true := by kernel_rfl
theorem fact12 : ((Rows.parseBindsRow.named == Tryz.prog.varsNamed 5)) = true := by kernel_rfl
theorem fact13 : ((Rows.parseBindsRow.maps == (Tryz.f5.params.toList ++ Rows.parseBindsSpec.plain.varTypes Tryz.prog).any (Tryz.prog.mapsRec ·))) = true := by kernel_rfl
theorem fact14 : ((Rows.parseBindsRow.ifaces == (Tryz.f5.params.toList ++ Rows.parseBindsSpec.plain.varTypes Tryz.prog).any (Tryz.prog.ifacesRec ·))) = true := by kernel_rfl
theorem fact15 : ((Rows.parseBindsRow.mapsOut == Tryz.prog.mapsAmong Tryz.f5.resultTypes.toList)) = true := by kernel_rfl
theorem fact16 : ((Rows.parseBindsRow.loops == (Tryz.f5.params.toList ++ Rows.parseBindsSpec.plain.varTypes Tryz.prog).any (Tryz.prog.loopsFrom ·))) = true := by kernel_rfl
theorem fact17 : ((Rows.parseBindsRow.wideKeys == (Tryz.f5.params.toList ++ Rows.parseBindsSpec.plain.varTypes Tryz.prog ++ Tryz.f5.resultTypes.toList).any (Tryz.prog.wideKeysFrom ·))) = true := by kernel_rfl
theorem fact18 : (Rows.parseBindsSpec.vars.all (Tryz.prog.varReadable ·)) = true := by kernel_rfl
theorem fact19 : (Tryz.f5.resultTypes.all (fun t => Tryz.prog.readableRec t && decide (t < Tryz.prog.types.size))) = true := by kernel_rfl
theorem fact20 : ((Rows.parseBindsRow.ifacesOut == Tryz.f5.resultTypes.toList.any (Tryz.prog.ifacesRec ·))) = true := by kernel_rfl
theorem fact21 : ((Rows.parseBindsRow.loopsOut == Tryz.f5.resultTypes.toList.any (Tryz.prog.loopsFrom ·))) = true := by kernel_rfl
theorem fact22 : ((Rows.parseBindsRow.plainKeys == Tryz.prog.plainKeys)) = true := by kernel_rfl
theorem fact23 : (Rows.parseBindsRow.shortTexts.isNone) = true := by kernel_rfl
theorem fact26 : ((Rows.parseBindsRow.lifted == Tryz.prog.liftsFinal)) = true := by kernel_rfl
theorem fact27 : ((Tryz.prog.make == some Rows.parseBindsRow.make)) = true := by kernel_rfl
theorem fact28 : ((Rows.parseBindsRow.kinds == (if Rows.parseBindsRow.domain.isEmpty then [] else Tryz.f5.params.toList.map fun t => match Tryz.prog.underlying t with | some (.int k) => some k | _ => none))) = true := by kernel_rfl
theorem fact29 : ((Rows.parseBindsRow.pinned == Rows.parseBindsRow.pinnedBy)) = true := by kernel_rfl
theorem fact30 : ((Rows.parseBindsRow.veiled == (Tryz.f5.params.toList ++ Rows.parseBindsSpec.plain.varTypes Tryz.prog ++ Tryz.f5.resultTypes.toList).any (Tryz.prog.veiledRec ·))) = true := by kernel_rfl
theorem fact31 : (Rows.parseBindsRow.veiledFits Tryz.prog Tryz.f5.params.toList (Tryz.f5.params.toList ++ Rows.parseBindsSpec.plain.varTypes Tryz.prog ++ Tryz.f5.resultTypes.toList)) = true := by kernel_rfl
set_option maxRecDepth 100000 in
theorem facts : joinedFacts Tryz.prog 5 Tryz.f5 Rows.parseBindsSpec Rows.parseBindsRow = true := by
  unfold joinedFacts
  exact (and2 (and2 (and2 (and2 (and2 (and2 (and2 (and2 (and2 (and2 (and2 (and2 (and2 (and2 (and2 (and2 (and2 (and2 (and2 (and2 (and2 (and2 (and2 (and2 (and2 (and2 (and2 (and2 (and2 (and2 (and2 fact0 Facts.fact1) Facts.fact2) fact3) fact4) fact5) Facts.fact6) fact7) Facts.fact8) fact9) fact10) fact11) fact12) fact13) fact14) fact15) fact16) fact17) fact18) fact19) fact20) fact21) fact22) fact23) Facts.fact24) Facts.fact25) fact26) fact27) fact28) fact29) fact30) fact31)
end Go.Proofs.YtbgeejmhkmjfdaaGreatDoor.parseBinds
