/-
  Lemmas for the statements of this seat; no statement is proved here. No condition.
-/
import Derived.Test.YtfbmgmdjaoackaaLHead
namespace Go.Proofs.Ytfbmgmdjaoackaa.driftParts
set_option maxRecDepth 100000
theorem closed_0 : (Rows.driftPartsRow.wf (OpenSpec.ofChange Rows.driftPartsSpec)) = true := by kernel_rfl
theorem closed_1 : (laidOutB Try.pinned.checked.prog) = true := J.laidOut_all
theorem closed_2 : (mapsRowed Try.pinned.checked.prog) = true := J.mapsRowed_all
theorem closed_3 : (Try.f25.params.all (Try.pinned.checked.prog.readableRec ·)) = true := by kernel_rfl
theorem closed_4 : (namedTie Try.pinned.checked.prog Rows.driftPartsRow.named Rows.driftPartsSpec.vars) = true := by kernel_rfl
theorem closed_5 : ((Rows.driftPartsRow.stops == [])) = true := by kernel_rfl
theorem closed_6 : ((Try.pinned.checked.prog.stops == [])) = true := J.stops_all
theorem closed_7 : ((Rows.driftPartsRow.knobs == [])) = true := by kernel_rfl
theorem closed_8 : ((Try.pinned.checked.prog.stopKnobs == [])) = true := J.stopKnobs_all
theorem closed_9 : ((Rows.driftPartsRow.inPlace == Try.pinned.checked.prog.inPlace 25)) = true := by kernel_rfl
theorem closed_10 : ((Rows.driftPartsRow.unfollowed == Try.pinned.checked.prog.unfollowed 25)) = true := by kernel_rfl
theorem closed_11 : ((Rows.driftPartsRow.recurses == Try.pinned.checked.prog.recurses 25)) = true := by kernel_rfl
theorem closed_12 : ((Rows.driftPartsRow.named == Try.pinned.checked.prog.varsNamed 25)) = true := by kernel_rfl
theorem closed_13 : ((Rows.driftPartsRow.maps == (Try.f25.params.toList ++ Rows.driftPartsSpec.plain.varTypes Try.pinned.checked.prog).any (Try.pinned.checked.prog.mapsRec ·))) = true := by kernel_rfl
theorem closed_14 : ((Rows.driftPartsRow.ifaces == (Try.f25.params.toList ++ Rows.driftPartsSpec.plain.varTypes Try.pinned.checked.prog).any (Try.pinned.checked.prog.ifacesRec ·))) = true := by kernel_rfl
theorem closed_15 : ((Rows.driftPartsRow.mapsOut == Try.pinned.checked.prog.mapsAmong Try.f25.resultTypes.toList)) = true := by kernel_rfl
theorem closed_16 : ((Rows.driftPartsRow.loops == (Try.f25.params.toList ++ Rows.driftPartsSpec.plain.varTypes Try.pinned.checked.prog).any (Try.pinned.checked.prog.loopsFrom ·))) = true := by kernel_rfl
theorem closed_17 : ((Rows.driftPartsRow.wideKeys == (Try.f25.params.toList ++ Rows.driftPartsSpec.plain.varTypes Try.pinned.checked.prog ++ Try.f25.resultTypes.toList).any (Try.pinned.checked.prog.wideKeysFrom ·))) = true := by kernel_rfl
theorem closed_18 : (Rows.driftPartsSpec.vars.all (Try.pinned.checked.prog.varReadable ·)) = true := by kernel_rfl
theorem closed_19 : (Try.f25.resultTypes.all (fun t => Try.pinned.checked.prog.readableRec t && decide (t < Try.pinned.checked.prog.types.size))) = true := by kernel_rfl
theorem closed_20 : ((Rows.driftPartsRow.ifacesOut == Try.f25.resultTypes.toList.any (Try.pinned.checked.prog.ifacesRec ·))) = true := by kernel_rfl
theorem closed_21 : ((Rows.driftPartsRow.loopsOut == Try.f25.resultTypes.toList.any (Try.pinned.checked.prog.loopsFrom ·))) = true := by kernel_rfl
theorem closed_22 : ((Rows.driftPartsRow.plainKeys == Try.pinned.checked.prog.plainKeys)) = true := by kernel_rfl
theorem closed_23 : (Rows.driftPartsRow.shortTexts.isNone) = true := by kernel_rfl
theorem closed_24 : (Try.pinned.checked.prog.stopsHeard) = true := J.stopsHeard_all
theorem closed_25 : (Try.pinned.checked.prog.mayEnter) = true := J.mayEnter
theorem closed_26 : ((Rows.driftPartsRow.lifted == Try.pinned.checked.prog.liftsFinal)) = true := by
  show (Rows.driftPartsRow.lifted == Try.prog.liftsFinal) = true
  rw [J.liftsFinal]; rfl
theorem closed_27 : ((Try.pinned.checked.prog.make == some Rows.driftPartsRow.make)) = true := by
  show (Try.prog.make == some Rows.driftPartsRow.make) = true
  rw [J.make]; rfl
theorem closed_28 : ((Rows.driftPartsRow.kinds == (if Rows.driftPartsRow.domain.isEmpty then [] else Try.f25.params.toList.map fun t => match Try.pinned.checked.prog.underlying t with | some (.int k) => some k | _ => none))) = true := by kernel_rfl
theorem closed_29 : ((Rows.driftPartsRow.pinned == Rows.driftPartsRow.pinnedBy)) = true := by kernel_rfl
theorem closed_30 : ((Rows.driftPartsRow.veiled == (Try.f25.params.toList ++ Rows.driftPartsSpec.plain.varTypes Try.pinned.checked.prog ++ Try.f25.resultTypes.toList).any (Try.pinned.checked.prog.veiledRec ·))) = true := by kernel_rfl
theorem closed_31 : (Rows.driftPartsRow.veiledFits Try.pinned.checked.prog Try.f25.params.toList (Try.f25.params.toList ++ Rows.driftPartsSpec.plain.varTypes Try.pinned.checked.prog ++ Try.f25.resultTypes.toList)) = true := by kernel_rfl
theorem closed : joinedFacts Try.pinned.checked.prog 25 Try.f25 Rows.driftPartsSpec Rows.driftPartsRow = true :=
  (Bool.and_eq_true_iff.2 ⟨(Bool.and_eq_true_iff.2 ⟨(Bool.and_eq_true_iff.2 ⟨(Bool.and_eq_true_iff.2 ⟨(Bool.and_eq_true_iff.2 ⟨(Bool.and_eq_true_iff.2 ⟨(Bool.and_eq_true_iff.2 ⟨(Bool.and_eq_true_iff.2 ⟨(Bool.and_eq_true_iff.2 ⟨(Bool.and_eq_true_iff.2 ⟨(Bool.and_eq_true_iff.2 ⟨(Bool.and_eq_true_iff.2 ⟨(Bool.and_eq_true_iff.2 ⟨(Bool.and_eq_true_iff.2 ⟨(Bool.and_eq_true_iff.2 ⟨(Bool.and_eq_true_iff.2 ⟨(Bool.and_eq_true_iff.2 ⟨(Bool.and_eq_true_iff.2 ⟨(Bool.and_eq_true_iff.2 ⟨(Bool.and_eq_true_iff.2 ⟨(Bool.and_eq_true_iff.2 ⟨(Bool.and_eq_true_iff.2 ⟨(Bool.and_eq_true_iff.2 ⟨(Bool.and_eq_true_iff.2 ⟨(Bool.and_eq_true_iff.2 ⟨(Bool.and_eq_true_iff.2 ⟨(Bool.and_eq_true_iff.2 ⟨(Bool.and_eq_true_iff.2 ⟨(Bool.and_eq_true_iff.2 ⟨(Bool.and_eq_true_iff.2 ⟨(Bool.and_eq_true_iff.2 ⟨closed_0, closed_1⟩), closed_2⟩), closed_3⟩), closed_4⟩), closed_5⟩), closed_6⟩), closed_7⟩), closed_8⟩), closed_9⟩), closed_10⟩), closed_11⟩), closed_12⟩), closed_13⟩), closed_14⟩), closed_15⟩), closed_16⟩), closed_17⟩), closed_18⟩), closed_19⟩), closed_20⟩), closed_21⟩), closed_22⟩), closed_23⟩), closed_24⟩), closed_25⟩), closed_26⟩), closed_27⟩), closed_28⟩), closed_29⟩), closed_30⟩), closed_31⟩)
theorem named : Try.pinned.checked.prog.funcNamed Rows.driftPartsRow.func = some 25 := by kernel_rfl
theorem inst : Try.f25.isInstance Try.pinned.checked.prog Rows.driftPartsRow.origin Rows.driftPartsRow.targs := of_decide_eq_true (by kernel_rfl)
theorem wrap : Try.f25.isWrapper Try.pinned.checked.prog Rows.driftPartsRow.wrapper Rows.driftPartsRow.mainSum := by unfold Func.isWrapper; first | (rw [if_pos (by decide +kernel)]; kernel_rfl) | (rw [if_neg (by decide +kernel)]; exact ⟨rfl, rfl⟩)
end Go.Proofs.Ytfbmgmdjaoackaa.driftParts
