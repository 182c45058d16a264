/-
  Lemmas for the statements of this seat; no statement is proved here. No condition.
-/
import Derived.Test.YtfbmgmdjaoackaaLHead
namespace Go.Proofs.Ytfbmgmdjaoackaa.gridLong
set_option maxRecDepth 100000
theorem closed_0 : (Rows.gridLongRow.wf (OpenSpec.ofChange Rows.gridLongSpec)) = true := by kernel_rfl
theorem closed_1 : (laidOutB Try.pinned.checked.prog) = true := J.laidOut_all
theorem closed_2 : (mapsRowed Try.pinned.checked.prog) = true := J.mapsRowed_all
theorem closed_3 : (Try.f9.params.all (Try.pinned.checked.prog.readableRec ·)) = true := by kernel_rfl
theorem closed_4 : (namedTie Try.pinned.checked.prog Rows.gridLongRow.named Rows.gridLongSpec.vars) = true := by kernel_rfl
theorem closed_5 : ((Rows.gridLongRow.stops == [])) = true := by kernel_rfl
theorem closed_6 : ((Try.pinned.checked.prog.stops == [])) = true := J.stops_all
theorem closed_7 : ((Rows.gridLongRow.knobs == [])) = true := by kernel_rfl
theorem closed_8 : ((Try.pinned.checked.prog.stopKnobs == [])) = true := J.stopKnobs_all
theorem closed_9 : ((Rows.gridLongRow.inPlace == Try.pinned.checked.prog.inPlace 9)) = true := by kernel_rfl
theorem closed_10 : ((Rows.gridLongRow.unfollowed == Try.pinned.checked.prog.unfollowed 9)) = true := by kernel_rfl
theorem closed_11 : ((Rows.gridLongRow.recurses == Try.pinned.checked.prog.recurses 9)) = true := by kernel_rfl
theorem closed_12 : ((Rows.gridLongRow.named == Try.pinned.checked.prog.varsNamed 9)) = true := by kernel_rfl
theorem closed_13 : ((Rows.gridLongRow.maps == (Try.f9.params.toList ++ Rows.gridLongSpec.plain.varTypes Try.pinned.checked.prog).any (Try.pinned.checked.prog.mapsRec ·))) = true := by kernel_rfl
theorem closed_14 : ((Rows.gridLongRow.ifaces == (Try.f9.params.toList ++ Rows.gridLongSpec.plain.varTypes Try.pinned.checked.prog).any (Try.pinned.checked.prog.ifacesRec ·))) = true := by kernel_rfl
theorem closed_15 : ((Rows.gridLongRow.mapsOut == Try.pinned.checked.prog.mapsAmong Try.f9.resultTypes.toList)) = true := by kernel_rfl
theorem closed_16 : ((Rows.gridLongRow.loops == (Try.f9.params.toList ++ Rows.gridLongSpec.plain.varTypes Try.pinned.checked.prog).any (Try.pinned.checked.prog.loopsFrom ·))) = true := by kernel_rfl
theorem closed_17 : ((Rows.gridLongRow.wideKeys == (Try.f9.params.toList ++ Rows.gridLongSpec.plain.varTypes Try.pinned.checked.prog ++ Try.f9.resultTypes.toList).any (Try.pinned.checked.prog.wideKeysFrom ·))) = true := by kernel_rfl
theorem closed_18 : (Rows.gridLongSpec.vars.all (Try.pinned.checked.prog.varReadable ·)) = true := by kernel_rfl
theorem closed_19 : (Try.f9.resultTypes.all (fun t => Try.pinned.checked.prog.readableRec t && decide (t < Try.pinned.checked.prog.types.size))) = true := by kernel_rfl
theorem closed_20 : ((Rows.gridLongRow.ifacesOut == Try.f9.resultTypes.toList.any (Try.pinned.checked.prog.ifacesRec ·))) = true := by kernel_rfl
theorem closed_21 : ((Rows.gridLongRow.loopsOut == Try.f9.resultTypes.toList.any (Try.pinned.checked.prog.loopsFrom ·))) = true := by kernel_rfl
theorem closed_22 : ((Rows.gridLongRow.plainKeys == Try.pinned.checked.prog.plainKeys)) = true := by kernel_rfl
theorem closed_23 : (Rows.gridLongRow.shortTexts.isNone) = true := by kernel_rfl
theorem closed_24 : (Try.pinned.checked.prog.stopsHeard) = true := J.stopsHeard_all
theorem closed_25 : (Try.pinned.checked.prog.mayEnter) = true := J.mayEnter
theorem closed_26 : ((Rows.gridLongRow.lifted == Try.pinned.checked.prog.liftsFinal)) = true := by
  show (Rows.gridLongRow.lifted == Try.prog.liftsFinal) = true
  rw [J.liftsFinal]; rfl
theorem closed_27 : ((Try.pinned.checked.prog.make == some Rows.gridLongRow.make)) = true := by
  show (Try.prog.make == some Rows.gridLongRow.make) = true
  rw [J.make]; rfl
theorem closed_28 : ((Rows.gridLongRow.kinds == (if Rows.gridLongRow.domain.isEmpty then [] else Try.f9.params.toList.map fun t => match Try.pinned.checked.prog.underlying t with | some (.int k) => some k | _ => none))) = true := by kernel_rfl
theorem closed_29 : ((Rows.gridLongRow.pinned == Rows.gridLongRow.pinnedBy)) = true := by kernel_rfl
theorem closed_30 : ((Rows.gridLongRow.veiled == (Try.f9.params.toList ++ Rows.gridLongSpec.plain.varTypes Try.pinned.checked.prog ++ Try.f9.resultTypes.toList).any (Try.pinned.checked.prog.veiledRec ·))) = true := by kernel_rfl
theorem closed_31 : (Rows.gridLongRow.veiledFits Try.pinned.checked.prog Try.f9.params.toList (Try.f9.params.toList ++ Rows.gridLongSpec.plain.varTypes Try.pinned.checked.prog ++ Try.f9.resultTypes.toList)) = true := by kernel_rfl
theorem closed : joinedFacts Try.pinned.checked.prog 9 Try.f9 Rows.gridLongSpec Rows.gridLongRow = true :=
  (Bool.and_eq_true_iff.2 ⟨(Bool.and_eq_true_iff.2 ⟨(Bool.and_eq_true_iff.2 ⟨(Bool.and_eq_true_iff.2 ⟨(Bool.and_eq_true_iff.2 ⟨(Bool.and_eq_true_iff.2 ⟨(Bool.and_eq_true_iff.2 ⟨(Bool.and_eq_true_iff.2 ⟨(Bool.and_eq_true_iff.2 ⟨(Bool.and_eq_true_iff.2 ⟨(Bool.and_eq_true_iff.2 ⟨(Bool.and_eq_true_iff.2 ⟨(Bool.and_eq_true_iff.2 ⟨(Bool.and_eq_true_iff.2 ⟨(Bool.and_eq_true_iff.2 ⟨(Bool.and_eq_true_iff.2 ⟨(Bool.and_eq_true_iff.2 ⟨(Bool.and_eq_true_iff.2 ⟨(Bool.and_eq_true_iff.2 ⟨(Bool.and_eq_true_iff.2 ⟨(Bool.and_eq_true_iff.2 ⟨(Bool.and_eq_true_iff.2 ⟨(Bool.and_eq_true_iff.2 ⟨(Bool.and_eq_true_iff.2 ⟨(Bool.and_eq_true_iff.2 ⟨(Bool.and_eq_true_iff.2 ⟨(Bool.and_eq_true_iff.2 ⟨(Bool.and_eq_true_iff.2 ⟨(Bool.and_eq_true_iff.2 ⟨(Bool.and_eq_true_iff.2 ⟨(Bool.and_eq_true_iff.2 ⟨closed_0, closed_1⟩), closed_2⟩), closed_3⟩), closed_4⟩), closed_5⟩), closed_6⟩), closed_7⟩), closed_8⟩), closed_9⟩), closed_10⟩), closed_11⟩), closed_12⟩), closed_13⟩), closed_14⟩), closed_15⟩), closed_16⟩), closed_17⟩), closed_18⟩), closed_19⟩), closed_20⟩), closed_21⟩), closed_22⟩), closed_23⟩), closed_24⟩), closed_25⟩), closed_26⟩), closed_27⟩), closed_28⟩), closed_29⟩), closed_30⟩), closed_31⟩)
theorem named : Try.pinned.checked.prog.funcNamed Rows.gridLongRow.func = some 9 := by kernel_rfl
theorem inst : Try.f9.isInstance Try.pinned.checked.prog Rows.gridLongRow.origin Rows.gridLongRow.targs := of_decide_eq_true (by kernel_rfl)
theorem wrap : Try.f9.isWrapper Try.pinned.checked.prog Rows.gridLongRow.wrapper Rows.gridLongRow.mainSum := by unfold Func.isWrapper; first | (rw [if_pos (by decide +kernel)]; kernel_rfl) | (rw [if_neg (by decide +kernel)]; exact ⟨rfl, rfl⟩)
end Go.Proofs.Ytfbmgmdjaoackaa.gridLong
