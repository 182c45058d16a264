/-
  Lemmas for the statements of this seat; no statement is proved here. No condition.
-/
import Derived.Test.YtfbmgmdjaoackaaJMem
import Derived.RangeFuncLeaves
namespace Go.J
set_option linter.unusedSimpArgs false
set_option linter.unusedVariables false
open Go.RowKit

def frOf : Nat → List Value → Fr
  | _, [] => []
  | i, v :: r => (i, v) :: frOf (i + 1) r

theorem frOf_get : ∀ (l : List Value) (i t : Nat) (v : Value), (frOf i l).get t = some v → i ≤ t ∧ l[t - i]? = some v := by
  intro l
  induction l with
  | nil => intro i t v h; simp [frOf, Fr.get] at h
  | cons x l ih =>
    intro i t v h
    simp only [frOf, Fr.get] at h
    by_cases ht : i = t
    · subst ht; simp at h; subst h; simp
    · have hb : Nat.beq i t = false := by
        cases hb : Nat.beq i t with
        | false => rfl
        | true => exact absurd (Nat.eq_of_beq_eq_true hb) ht
      rw [hb] at h
      obtain ⟨h1, h2⟩ := ih (i + 1) t v (by simpa using h)
      refine ⟨by omega, ?_⟩
      rw [show t - i = (t - (i + 1)) + 1 by omega]
      simpa using h2

/-- what a function's body owes -/
def bodyJ (P : Program) (fn : Func) (R : Ending → World → Prop) : Exit → Act → World → Prop := bodyPostM (wideR none) 0 P fn R
theorem bodyJ_ret {P : Program} {fn : Func} {R : Ending → World → Prop} {a : Act} {w : World} {v : Value} (hr : (results fn a.tmps).run P w = .ok v w) (hd : a.defers = []) (hR : R (.returned v) w) : bodyJ P fn R .ret a w := by
  show LeavesInM (wideR none) 0 P fn a.tmps R a.defers .returning w
  rw [hd]
  exact ⟨v, hr, hR⟩
theorem calls_J {P : Program} {f : FuncId} {fn : Func} {c : Code} {n : Nat} {args : List Value} {w : World} {R : Ending → World → Prop}
    (hf : P.funcs[f]? = some fn) (hb : fn.body = some c) (hn : fn.ntmps = n) (hl : Nat.ble args.length n = true) (k : JC P ⟨n, [], none⟩ c (bodyJ P fn R) (frOf 0 args) w) : Calls P f args.toArray w R := by
  refine callsIn_wide.1 (callsIn_of_wp_marks (F := wideR none) (n := 0) hf hb trivial (k _ ⟨?_, rfl, fun t v e => ?_⟩))
  · have := Nat.le_of_ble_eq_true hl; simp; omega
  · obtain ⟨_, h⟩ := frOf_get _ _ _ _ e
    simp at h
    have hlt : t < args.length := by
      rcases Nat.lt_or_ge t args.length with h' | h'
      · exact h'
      · rw [List.getElem?_eq_none h'] at h; cases h
    rw [Array.getElem?_append_left (by simpa using hlt)]
    simpa using h

/-- what stands in a result's place -/
inductive ResAt (P : Program) (w : World) (fr : Fr) : ResultVar → Value → Prop
  | tmp {t : Tmp} {v : Value} (h : fr.get t = some v) : ResAt P w fr (.tmp t) v
  | cell {a : Tmp} {t : TypeId} {β off : Nat} {sh : Bool × Nat} {v : Value} (h : fr.get a = some (.pointer (some ⟨β, off, none⟩))) (hs : tySh P t = some sh) (hl : LdAt w β off sh v) : ResAt P w fr (.cell a t) v

section
variable {P : Program} {N : Sz} {fr : Fr} {w : World} {fn : Func} {R : Ending → World → Prop} {a : Act}

theorem res1 {r : ResultVar} {v : Value} (H : Has N fr a) (hr : fn.results = #[r]) (h : ResAt P w fr r v) : (results fn a.tmps).run P w = .ok v w := by
  cases h with
  | tmp h => simp [results, hr, H.get _ _ h]
  | cell h hs hl => simp [results, hr, H.get _ _ h, asAddr, run_loadVar hs hl]
theorem res2 {r0 r1 : ResultVar} {v0 v1 : Value} (H : Has N fr a) (hr : fn.results = #[r0, r1]) (h0 : ResAt P w fr r0 v0) (h1 : ResAt P w fr r1 v1) : (results fn a.tmps).run P w = .ok (.tuple #[v0, v1]) w := by
  cases h0 with
  | tmp g0 =>
    cases h1 with
    | tmp g1 =>
      simp [results, hr, H.get _ _ g0, H.get _ _ g1]
    | cell g1 s1 l1 =>
      simp [results, hr, H.get _ _ g0, H.get _ _ g1, asAddr, run_loadVar s1 l1]
  | cell g0 s0 l0 =>
    cases h1 with
    | tmp g1 =>
      simp [results, hr, H.get _ _ g0, asAddr, run_loadVar s0 l0, H.get _ _ g1]
    | cell g1 s1 l1 =>
      simp [results, hr, H.get _ _ g0, asAddr, run_loadVar s0 l0, H.get _ _ g1, asAddr, run_loadVar s1 l1]
theorem res3 {r0 r1 r2 : ResultVar} {v0 v1 v2 : Value} (H : Has N fr a) (hr : fn.results = #[r0, r1, r2]) (h0 : ResAt P w fr r0 v0) (h1 : ResAt P w fr r1 v1) (h2 : ResAt P w fr r2 v2) : (results fn a.tmps).run P w = .ok (.tuple #[v0, v1, v2]) w := by
  cases h0 with
  | tmp g0 =>
    cases h1 with
    | tmp g1 =>
      cases h2 with
      | tmp g2 =>
        simp [results, hr, H.get _ _ g0, H.get _ _ g1, H.get _ _ g2]
      | cell g2 s2 l2 =>
        simp [results, hr, H.get _ _ g0, H.get _ _ g1, H.get _ _ g2, asAddr, run_loadVar s2 l2]
    | cell g1 s1 l1 =>
      cases h2 with
      | tmp g2 =>
        simp [results, hr, H.get _ _ g0, H.get _ _ g1, asAddr, run_loadVar s1 l1, H.get _ _ g2]
      | cell g2 s2 l2 =>
        simp [results, hr, H.get _ _ g0, H.get _ _ g1, asAddr, run_loadVar s1 l1, H.get _ _ g2, asAddr, run_loadVar s2 l2]
  | cell g0 s0 l0 =>
    cases h1 with
    | tmp g1 =>
      cases h2 with
      | tmp g2 =>
        simp [results, hr, H.get _ _ g0, asAddr, run_loadVar s0 l0, H.get _ _ g1, H.get _ _ g2]
      | cell g2 s2 l2 =>
        simp [results, hr, H.get _ _ g0, asAddr, run_loadVar s0 l0, H.get _ _ g1, H.get _ _ g2, asAddr, run_loadVar s2 l2]
    | cell g1 s1 l1 =>
      cases h2 with
      | tmp g2 =>
        simp [results, hr, H.get _ _ g0, asAddr, run_loadVar s0 l0, H.get _ _ g1, asAddr, run_loadVar s1 l1, H.get _ _ g2]
      | cell g2 s2 l2 =>
        simp [results, hr, H.get _ _ g0, asAddr, run_loadVar s0 l0, H.get _ _ g1, asAddr, run_loadVar s1 l1, H.get _ _ g2, asAddr, run_loadVar s2 l2]
theorem Has.noMarks (H : Has N fr a) (hds : N.ds = []) : a.defers = [] := H.defers.trans (by simp [Sz.marks, hds])
theorem Ex.end_ (h : Ex N (bodyJ P fn R) .ret fr w) : Ex N (bodyJ P fn R) .normal fr w := h
theorem Ex.ret0 (hr : fn.results = #[]) (hR : R (.returned (.tuple #[])) w) (hds : N.ds = [] := by rfl) : Ex N (bodyJ P fn R) .ret fr w := fun _ H => bodyJ_ret (results_none hr _ _ _) (H.noMarks hds) hR
theorem Ex.ret1 {r : ResultVar} {v : Value} (hr : fn.results = #[r]) (h : ResAt P w fr r v) (hR : R (.returned v) w) (hds : N.ds = [] := by rfl) : Ex N (bodyJ P fn R) .ret fr w := fun _ H => bodyJ_ret (res1 H hr h) (H.noMarks hds) hR
theorem Ex.ret2 {r s : ResultVar} {v u : Value} (hr : fn.results = #[r, s]) (h : ResAt P w fr r v) (h' : ResAt P w fr s u) (hR : R (.returned (.tuple #[v, u])) w) (hds : N.ds = [] := by rfl) : Ex N (bodyJ P fn R) .ret fr w :=
  fun _ H => bodyJ_ret (res2 H hr h h') (H.noMarks hds) hR
theorem Ex.ret3 {r s q : ResultVar} {v u x : Value} (hr : fn.results = #[r, s, q]) (h : ResAt P w fr r v) (h' : ResAt P w fr s u) (h'' : ResAt P w fr q x) (hR : R (.returned (.tuple #[v, u, x])) w) (hds : N.ds = [] := by rfl) :
    Ex N (bodyJ P fn R) .ret fr w := fun _ H => bodyJ_ret (res3 H hr h h' h'') (H.noMarks hds) hR
end

/-! ## a function that ranged over functions: marks among its deferred calls -/
/-- the block of a range's deferred calls -/
def dfr (D : Nat) : HP := blk D (.deferred (some []))
theorem leavesJ {P : Program} {fn : Func} {tmps : Array Value} {R : Ending → World → Prop} {w0 : World} {M : List HP} (k : ∀ w', Own w0 w' M → ∃ v, (results fn tmps).run P w' = .ok v w' ∧ R (.returned v) w') :
    ∀ (ds : List Nat) (w : World), Own w0 w (ds.map dfr ++ M) → LeavesInM (wideR none) 0 P fn tmps R (ds.map mark) .returning w := by
  intro ds
  induction ds with
  | nil => intro w H; obtain ⟨v, h1, h2⟩ := k w H; exact ⟨v, h1, h2⟩
  | cons D ds ih =>
    intro w H
    have hg := (H.get (i := 0) rfl).2
    have H' := H.put (i := 0) (β := D) rfl (.deferred none) (w' := w.putObj D (.deferred none)) rfl rfl rfl (by simp) (fun j hj _ => World.putObj_heap_other hj) (World.putObj_heap_same (Array.getElem?_eq_some_iff.1 hg).1)
    exact ⟨by simp, .inl ⟨D, _, rfl, run_takeDeferred hg, ih _ (H'.drop 0)⟩⟩
section
variable {P : Program} {N : Sz} {fr : Fr} {w w0 : World} {fn : Func} {R : Ending → World → Prop} {M : List HP}
theorem Ex.retM0 (H : Own w0 w (N.ds.map dfr ++ M)) (hr : fn.results = #[]) (hR : ∀ w', Own w0 w' M → R (.returned (.tuple #[])) w') : Ex N (bodyJ P fn R) .ret fr w := fun a Ha => by
  show LeavesInM (wideR none) 0 P fn a.tmps R a.defers .returning w
  rw [Ha.defers]
  exact leavesJ (fun w' h => ⟨_, results_none hr _ _ _, hR w' h⟩) N.ds w H
theorem Ex.retM1 {r : ResultVar} {v : Value} (H : Own w0 w (N.ds.map dfr ++ M)) (hr : fn.results = #[r]) (h : ∀ w', Own w0 w' M → ResAt P w' fr r v) (hR : ∀ w', Own w0 w' M → R (.returned v) w') : Ex N (bodyJ P fn R) .ret fr w := fun a Ha => by
  show LeavesInM (wideR none) 0 P fn a.tmps R a.defers .returning w
  rw [Ha.defers]
  exact leavesJ (fun w' hO => ⟨_, res1 Ha hr (h w' hO), hR w' hO⟩) N.ds w H
theorem Ex.retM2 {r s : ResultVar} {v u : Value} (H : Own w0 w (N.ds.map dfr ++ M)) (hr : fn.results = #[r, s]) (h : ∀ w', Own w0 w' M → ResAt P w' fr r v) (h' : ∀ w', Own w0 w' M → ResAt P w' fr s u)
    (hR : ∀ w', Own w0 w' M → R (.returned (.tuple #[v, u])) w') : Ex N (bodyJ P fn R) .ret fr w := fun a Ha => by
  show LeavesInM (wideR none) 0 P fn a.tmps R a.defers .returning w
  rw [Ha.defers]
  exact leavesJ (fun w' hO => ⟨_, res2 Ha hr (h w' hO) (h' w' hO), hR w' hO⟩) N.ds w H
theorem Ex.retM3 {r s q : ResultVar} {v u x : Value} (H : Own w0 w (N.ds.map dfr ++ M)) (hr : fn.results = #[r, s, q]) (h : ∀ w', Own w0 w' M → ResAt P w' fr r v) (h' : ∀ w', Own w0 w' M → ResAt P w' fr s u) (h'' : ∀ w', Own w0 w' M → ResAt P w' fr q x)
    (hR : ∀ w', Own w0 w' M → R (.returned (.tuple #[v, u, x])) w') : Ex N (bodyJ P fn R) .ret fr w := fun a Ha => by
  show LeavesInM (wideR none) 0 P fn a.tmps R a.defers .returning w
  rw [Ha.defers]
  exact leavesJ (fun w' hO => ⟨_, res3 Ha hr (h w' hO) (h' w' hO) (h'' w' hO), hR w' hO⟩) N.ds w H
end
end Go.J
