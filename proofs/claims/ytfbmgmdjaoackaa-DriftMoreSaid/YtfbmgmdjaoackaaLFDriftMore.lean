/-
  Lemmas for the statements of this seat; no statement is proved here. No condition.
-/
import Derived.Test.YtfbmgmdjaoackaaLHead
namespace Go.Proofs.Ytfbmgmdjaoackaa.driftMore
set_option maxRecDepth 100000
theorem closed_0 : (Rows.driftMoreRow.wf (OpenSpec.ofChange Rows.driftMoreSpec)) = true := by kernel_rfl
theorem closed_1 : (laidOutB Try.pinned.checked.prog) = true := J.laidOut_all
theorem closed_2 : (mapsRowed Try.pinned.checked.prog) = true := J.mapsRowed_all
theorem closed_3 : (Try.f23.params.all (Try.pinned.checked.prog.readableRec ·)) = true := by kernel_rfl
theorem closed_4 : (namedTie Try.pinned.checked.prog Rows.driftMoreRow.named Rows.driftMoreSpec.vars) = true := by kernel_rfl
theorem closed_5 : ((Rows.driftMoreRow.stops == [])) = true := by kernel_rfl
theorem closed_6 : ((Try.pinned.checked.prog.stops == [])) = true := J.stops_all
theorem closed_7 : ((Rows.driftMoreRow.knobs == [])) = true := by kernel_rfl
theorem closed_8 : ((Try.pinned.checked.prog.stopKnobs == [])) = true := J.stopKnobs_all
theorem closed_9 : ((Rows.driftMoreRow.inPlace == Try.pinned.checked.prog.inPlace 23)) = true := by kernel_rfl
theorem closed_10 : ((Rows.driftMoreRow.unfollowed == Try.pinned.checked.prog.unfollowed 23)) = true := by kernel_rfl
theorem closed_11 : ((Rows.driftMoreRow.recurses == Try.pinned.checked.prog.recurses 23)) = true := by kernel_rfl
theorem closed_12 : ((Rows.driftMoreRow.named == Try.pinned.checked.prog.varsNamed 23)) = true := by kernel_rfl
theorem closed_13 : ((Rows.driftMoreRow.maps == (Try.f23.params.toList ++ Rows.driftMoreSpec.plain.varTypes Try.pinned.checked.prog).any (Try.pinned.checked.prog.mapsRec ·))) = true := by kernel_rfl
theorem closed_14 : ((Rows.driftMoreRow.ifaces == (Try.f23.params.toList ++ Rows.driftMoreSpec.plain.varTypes Try.pinned.checked.prog).any (Try.pinned.checked.prog.ifacesRec ·))) = true := by kernel_rfl
theorem closed_15 : ((Rows.driftMoreRow.mapsOut == Try.pinned.checked.prog.mapsAmong Try.f23.resultTypes.toList)) = true := by kernel_rfl
theorem closed_16 : ((Rows.driftMoreRow.loops == (Try.f23.params.toList ++ Rows.driftMoreSpec.plain.varTypes Try.pinned.checked.prog).any (Try.pinned.checked.prog.loopsFrom ·))) = true := by kernel_rfl
theorem closed_17 : ((Rows.driftMoreRow.wideKeys == (Try.f23.params.toList ++ Rows.driftMoreSpec.plain.varTypes Try.pinned.checked.prog ++ Try.f23.resultTypes.toList).any (Try.pinned.checked.prog.wideKeysFrom ·))) = true := by kernel_rfl
theorem closed_18 : (Rows.driftMoreSpec.vars.all (Try.pinned.checked.prog.varReadable ·)) = true := by kernel_rfl
theorem closed_19 : (Try.f23.resultTypes.all (fun t => Try.pinned.checked.prog.readableRec t && decide (t < Try.pinned.checked.prog.types.size))) = true := by kernel_rfl
theorem closed_20 : ((Rows.driftMoreRow.ifacesOut == Try.f23.resultTypes.toList.any (Try.pinned.checked.prog.ifacesRec ·))) = true := by kernel_rfl
theorem closed_21 : ((Rows.driftMoreRow.loopsOut == Try.f23.resultTypes.toList.any (Try.pinned.checked.prog.loopsFrom ·))) = true := by kernel_rfl
theorem closed_22 : ((Rows.driftMoreRow.plainKeys == Try.pinned.checked.prog.plainKeys)) = true := by kernel_rfl
theorem closed_23 : (Rows.driftMoreRow.shortTexts.isNone) = true := by kernel_rfl
theorem closed_24 : (Try.pinned.checked.prog.stopsHeard) = true := J.stopsHeard_all
theorem closed_25 : (Try.pinned.checked.prog.mayEnter) = true := J.mayEnter
theorem closed_26 : ((Rows.driftMoreRow.lifted == Try.pinned.checked.prog.liftsFinal)) = true := by
  show (Rows.driftMoreRow.lifted == Try.prog.liftsFinal) = true
  rw [J.liftsFinal]; rfl
theorem closed_27 : ((Try.pinned.checked.prog.make == some Rows.driftMoreRow.make)) = true := by
  show (Try.prog.make == some Rows.driftMoreRow.make) = true
  rw [J.make]; rfl
theorem closed_28 : ((Rows.driftMoreRow.kinds == (if Rows.driftMoreRow.domain.isEmpty then [] else Try.f23.params.toList.map fun t => match Try.pinned.checked.prog.underlying t with | some (.int k) => some k | _ => none))) = true := by kernel_rfl
theorem closed_29 : ((Rows.driftMoreRow.pinned == Rows.driftMoreRow.pinnedBy)) = true := by kernel_rfl
theorem closed_30 : ((Rows.driftMoreRow.veiled == (Try.f23.params.toList ++ Rows.driftMoreSpec.plain.varTypes Try.pinned.checked.prog ++ Try.f23.resultTypes.toList).any (Try.pinned.checked.prog.veiledRec ·))) = true := by kernel_rfl
theorem closed_31 : (Rows.driftMoreRow.veiledFits Try.pinned.checked.prog Try.f23.params.toList (Try.f23.params.toList ++ Rows.driftMoreSpec.plain.varTypes Try.pinned.checked.prog ++ Try.f23.resultTypes.toList)) = true := by kernel_rfl
theorem closed : joinedFacts Try.pinned.checked.prog 23 Try.f23 Rows.driftMoreSpec Rows.driftMoreRow = true :=
  (Bool.and_eq_true_iff.2 ⟨(Bool.and_eq_true_iff.2 ⟨(Bool.and_eq_true_iff.2 ⟨(Bool.and_eq_true_iff.2 ⟨(Bool.and_eq_true_iff.2 ⟨(Bool.and_eq_true_iff.2 ⟨(Bool.and_eq_true_iff.2 ⟨(Bool.and_eq_true_iff.2 ⟨(Bool.and_eq_true_iff.2 ⟨(Bool.and_eq_true_iff.2 ⟨(Bool.and_eq_true_iff.2 ⟨(Bool.and_eq_true_iff.2 ⟨(Bool.and_eq_true_iff.2 ⟨(Bool.and_eq_true_iff.2 ⟨(Bool.and_eq_true_iff.2 ⟨(Bool.and_eq_true_iff.2 ⟨(Bool.and_eq_true_iff.2 ⟨(Bool.and_eq_true_iff.2 ⟨(Bool.and_eq_true_iff.2 ⟨(Bool.and_eq_true_iff.2 ⟨(Bool.and_eq_true_iff.2 ⟨(Bool.and_eq_true_iff.2 ⟨(Bool.and_eq_true_iff.2 ⟨(Bool.and_eq_true_iff.2 ⟨(Bool.and_eq_true_iff.2 ⟨(Bool.and_eq_true_iff.2 ⟨(Bool.and_eq_true_iff.2 ⟨(Bool.and_eq_true_iff.2 ⟨(Bool.and_eq_true_iff.2 ⟨(Bool.and_eq_true_iff.2 ⟨(Bool.and_eq_true_iff.2 ⟨closed_0, closed_1⟩), closed_2⟩), closed_3⟩), closed_4⟩), closed_5⟩), closed_6⟩), closed_7⟩), closed_8⟩), closed_9⟩), closed_10⟩), closed_11⟩), closed_12⟩), closed_13⟩), closed_14⟩), closed_15⟩), closed_16⟩), closed_17⟩), closed_18⟩), closed_19⟩), closed_20⟩), closed_21⟩), closed_22⟩), closed_23⟩), closed_24⟩), closed_25⟩), closed_26⟩), closed_27⟩), closed_28⟩), closed_29⟩), closed_30⟩), closed_31⟩)
theorem named : Try.pinned.checked.prog.funcNamed Rows.driftMoreRow.func = some 23 := by kernel_rfl
theorem inst : Try.f23.isInstance Try.pinned.checked.prog Rows.driftMoreRow.origin Rows.driftMoreRow.targs := of_decide_eq_true (by kernel_rfl)
theorem wrap : Try.f23.isWrapper Try.pinned.checked.prog Rows.driftMoreRow.wrapper Rows.driftMoreRow.mainSum := by unfold Func.isWrapper; first | (rw [if_pos (by decide +kernel)]; kernel_rfl) | (rw [if_neg (by decide +kernel)]; exact ⟨rfl, rfl⟩)
end Go.Proofs.Ytfbmgmdjaoackaa.driftMore
