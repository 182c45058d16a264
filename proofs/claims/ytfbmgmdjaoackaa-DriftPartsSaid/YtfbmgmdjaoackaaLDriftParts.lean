/-
  The statement 'Rows.DriftPartsSaid': the law DriftParts returns true whatever the input, and the input reads afterwards as it read before. No condition.
-/
import Derived.Test.YtfbmgmdjaoackaaM7
import Derived.Test.YtfbmgmdjaoackaaLFDriftParts
import Derived.Test.YtfbmgmdjaoackaaRows
import Derived.Test.YtfbmgmdjaoackaaChecked
import Derived.WalkKit
import Derived.ProofKit
import Derived.OpenShut
import Derived.ShutString
import Derived.ChangeOld
import Derived.Below
namespace Go.Proofs.Ytfbmgmdjaoackaa.driftParts
open Go.ChangeShapes Go.WideShapes Go.ChangeAt Go.RowKit Go.J
set_option linter.unusedVariables false

theorem own : ownKnob Try.prog.godebug = none := by kernel_rfl
theorem laidOut : laidOutB Try.prog = true := by kernel_rfl

set_option maxRecDepth 100000 in
theorem lifted (os : Os) (started : os.Started) (H : Type) (enc : TypeId × Value → H) :
    ReturnsInHanded {} Try.checked os 25 .any (Rows.driftPartsSpec.pre6 enc Try.prog Try.f25 Rows.driftPartsRow.domain false) (Rows.driftPartsSpec.post enc Try.prog Try.f25 false true false false) := by
  refine returnsInHanded_of_change (C := Try.checked) own started (by kernel_rfl) Try.func25
    (ChangeSpec.witness6 (enc := enc) (C := Try.checked) false ⟨#[], #[.agg #[.int .i64 0, .int .i64 0, .int .i64 0, .slice none 0 0], .agg #[.int .i64 0, .slice none 0 0, .slice none 0 0, .slice none 0 0, .bool false], .agg #[.int .i64 0, .slice none 0 0, .slice none 0 0, .slice none 0 0, .bool false], .slice none 0 0], []⟩ 8 (by kernel_rfl) (by kernel_rfl) (by kernel_rfl) (by kernel_rfl)) ?_
  intro W base args ds gs before hval0 hW hcnd _
  have hval : ∀ (j : Nat) t v, Try.f25.params[j]? = some t → args[j]? = some v → Value.okWide Try.prog W .any base t v := hval0
  have hW' := hW
  obtain ⟨p, q, hA0, hV, rfl, hfz, hnd⟩ := hW
  have hA : DataW.TrodAll enc Try.prog W 0 (fun _ => true) true Try.f25.params.toList args.toList ds p := hA0
  rw [Try.params25] at hA hval
  obtain ⟨v0, vs0, d0, ds0, p0, q0, hargs, rfl, rfl, h0, r0⟩ := trodAll_cons hA
  obtain ⟨v1, vs1, d1, ds1, p1, q1, rfl, rfl, rfl, h1, r1⟩ := trodAll_cons r0
  obtain ⟨v2, vs2, d2, ds2, p2, q2, rfl, rfl, rfl, h2, r2⟩ := trodAll_cons r1
  obtain ⟨v3, vs3, d3, ds3, p3, q3, rfl, rfl, rfl, h3, r3⟩ := trodAll_cons r2
  obtain ⟨rfl, rfl, rfl⟩ := trodAll_nil r3
  obtain rfl : args = #[v0, v1, v2, v3] := by cases args; simp_all
  obtain ⟨rfl, rfl⟩ := trodVars_none hV
  have k0 := h0
  have k1 := h1
  have k2 := h2
  have k3 := h3
  have lt0 : ∀ x ∈ p0, x.block < W.heap.size := by obtain ⟨m, hm⟩ := k0; exact DataW.trod_lt m _ _ _ hm
  have lt1 : ∀ x ∈ p1, x.block < W.heap.size := by obtain ⟨m, hm⟩ := k1; exact DataW.trod_lt m _ _ _ hm
  have lt2 : ∀ x ∈ p2, x.block < W.heap.size := by obtain ⟨m, hm⟩ := k2; exact DataW.trod_lt m _ _ _ hm
  have lt3 : ∀ x ∈ p3, x.block < W.heap.size := by obtain ⟨m, hm⟩ := k3; exact DataW.trod_lt m _ _ _ hm
  obtain ⟨g, lvg, rfl, hlg, hclg, _, _, _⟩ := open_grid (hval 0 52 v0 rfl rfl) h0
  obtain ⟨⟨ta, lfa, la, rfa, ra, bfa, ba, offa⟩, rfl, ⟨hxa, hya, hza⟩, ⟨cxa, cya, cza⟩, _⟩ := open_patch (hval 1 90 v1 rfl rfl) h1
  obtain ⟨⟨tb, lfb, lb, rfb, rb, bfb, bb, offb⟩, rfl, ⟨hxb, hyb, hzb⟩, ⟨cxb, cyb, czb⟩, _⟩ := open_patch (hval 2 90 v2 rfl rfl) h2
  obtain ⟨r, hrr, hcr⟩ := open_runsA (hval 3 50 v3 rfl rfl) h3
  clear hA0 hval0
  refine Calls.mono (dparts_c g lvg ta tb lfa rfa bfa lfb rfb bfb v3 la ra ba lb rb bb r offa offb W hlg hclg hxa hya hza hxb hyb hzb cxa cya cza cxb cyb czb hrr hcr) fun e W' ⟨he, bel⟩ => ?_
  subst he
  exact ⟨_, rfl, _, _, _, [], _, [], hW', trodAll_mk1 (shut_bool Try.underlying4 _),
    (trodAll_cons_mk (Below.trod laidOut (by kernel_rfl) (of_decide_eq_true (by kernel_rfl)) k0 bel lt0) (trodAll_cons_mk (Below.trod laidOut (by kernel_rfl) (of_decide_eq_true (by kernel_rfl)) k1 bel lt1) (trodAll_cons_mk (Below.trod laidOut (by kernel_rfl) (of_decide_eq_true (by kernel_rfl)) k2 bel lt2) (trodAll_cons_mk (Below.trod laidOut (by kernel_rfl) (of_decide_eq_true (by kernel_rfl)) k3 bel lt3) trodAll_mk0)))), rfl, bel.frame _, fun h => by cases h⟩

theorem over : Rows.driftPartsRow.holds Try.pinned (OpenSpec.ofChange Rows.driftPartsSpec) :=
  OpenClaim.holds_of_wide 25 Try.f25 rfl rfl rfl rfl rfl rfl rfl ⟨rfl, rfl, rfl, rfl, rfl⟩ rfl rfl rfl rfl rfl named Try.func25 closed inst wrap
    (fun os started H enc _ => lifted os started H enc)
end Go.Proofs.Ytfbmgmdjaoackaa.driftParts
namespace Go.Proofs.Ytfbmgmdjaoackaa
theorem driftParts_holds : Rows.DriftPartsSaid := driftParts.over
end Go.Proofs.Ytfbmgmdjaoackaa
#print axioms Go.Proofs.Ytfbmgmdjaoackaa.driftParts_holds
