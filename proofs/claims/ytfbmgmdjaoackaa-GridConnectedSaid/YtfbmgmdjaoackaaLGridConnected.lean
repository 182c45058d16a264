/-
  The statement 'Rows.GridConnectedSaid': the law GridConnected returns true whatever the input, and the input reads afterwards as it read before. No condition.
-/
import Derived.Test.YtfbmgmdjaoackaaM8
import Derived.Test.YtfbmgmdjaoackaaLFGridConnected
import Derived.Test.YtfbmgmdjaoackaaM9
import Derived.Test.YtfbmgmdjaoackaaRows
import Derived.Test.YtfbmgmdjaoackaaChecked
import Derived.WalkKit
import Derived.ProofKit
import Derived.OpenShut
import Derived.ShutString
import Derived.ChangeOld
import Derived.Below
namespace Go.Proofs.Ytfbmgmdjaoackaa.gridConnected
open Go.ChangeShapes Go.WideShapes Go.ChangeAt Go.RowKit Go.J
set_option linter.unusedVariables false

theorem own : ownKnob Try.prog.godebug = none := by kernel_rfl
theorem laidOut : laidOutB Try.prog = true := by kernel_rfl

set_option maxRecDepth 100000 in
theorem lifted (os : Os) (started : os.Started) (H : Type) (enc : TypeId × Value → H) :
    ReturnsInHanded {} Try.checked os 18 .any (Rows.gridConnectedSpec.pre6 enc Try.prog Try.f18 Rows.gridConnectedRow.domain false) (Rows.gridConnectedSpec.post enc Try.prog Try.f18 false true false false) := by
  refine returnsInHanded_of_change (C := Try.checked) own started (by kernel_rfl) Try.func18
    (ChangeSpec.witness6 (enc := enc) (C := Try.checked) false ⟨#[], #[.agg #[.int .i64 0, .int .i64 0, .int .i64 0, .slice none 0 0], .slice none 0 0], []⟩ 8 (by kernel_rfl) (by kernel_rfl) (by kernel_rfl) (by kernel_rfl)) ?_
  intro W base args ds gs before hval0 hW hcnd _
  have hval : ∀ (j : Nat) t v, Try.f18.params[j]? = some t → args[j]? = some v → Value.okWide Try.prog W .any base t v := hval0
  have hW' := hW
  obtain ⟨p, q, hA0, hV, rfl, hfz, hnd⟩ := hW
  have hA : DataW.TrodAll enc Try.prog W 0 (fun _ => true) true Try.f18.params.toList args.toList ds p := hA0
  rw [Try.params18] at hA hval
  obtain ⟨v0, vs0, d0, ds0, p0, q0, hargs, rfl, rfl, h0, r0⟩ := trodAll_cons hA
  obtain ⟨v1, vs1, d1, ds1, p1, q1, rfl, rfl, rfl, h1, r1⟩ := trodAll_cons r0
  obtain ⟨rfl, rfl, rfl⟩ := trodAll_nil r1
  obtain rfl : args = #[v0, v1] := by cases args; simp_all
  obtain ⟨rfl, rfl⟩ := trodVars_none hV
  have k0 := h0
  have k1 := h1
  have lt0 : ∀ x ∈ p0, x.block < W.heap.size := by obtain ⟨m, hm⟩ := k0; exact DataW.trod_lt m _ _ _ hm
  have lt1 : ∀ x ∈ p1, x.block < W.heap.size := by obtain ⟨m, hm⟩ := k1; exact DataW.trod_lt m _ _ _ hm
  obtain ⟨g, lvg, rfl, hlg, hclg, _, _, _⟩ := open_grid (hval 0 52 v0 rfl rfl) h0
  obtain ⟨r, hrr, hcr⟩ := open_runsA (hval 1 50 v1 rfl rfl) h1
  clear hA0 hval0
  refine Calls.mono (gridConnected_w g lvg v1 r W hlg hrr) fun e W' ⟨he, bel⟩ => ?_
  subst he
  exact ⟨_, rfl, _, _, _, [], _, [], hW', trodAll_mk1 (shut_bool Try.underlying4 _),
    (trodAll_cons_mk (Below.trod laidOut (by kernel_rfl) (of_decide_eq_true (by kernel_rfl)) k0 bel lt0) (trodAll_cons_mk (Below.trod laidOut (by kernel_rfl) (of_decide_eq_true (by kernel_rfl)) k1 bel lt1) trodAll_mk0)), rfl, bel.frame _, fun h => by cases h⟩

theorem over : Rows.gridConnectedRow.holds Try.pinned (OpenSpec.ofChange Rows.gridConnectedSpec) :=
  OpenClaim.holds_of_wide 18 Try.f18 rfl rfl rfl rfl rfl rfl rfl ⟨rfl, rfl, rfl, rfl, rfl⟩ rfl rfl rfl rfl rfl named Try.func18 closed inst wrap
    (fun os started H enc _ => lifted os started H enc)
end Go.Proofs.Ytfbmgmdjaoackaa.gridConnected
namespace Go.Proofs.Ytfbmgmdjaoackaa
theorem gridConnected_holds : Rows.GridConnectedSaid := gridConnected.over
end Go.Proofs.Ytfbmgmdjaoackaa
#print axioms Go.Proofs.Ytfbmgmdjaoackaa.gridConnected_holds
