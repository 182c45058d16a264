/-
  Lemmas for the statements of this seat; no statement is proved here. No condition.
-/
import Derived.Test.YtfbmgmdjaoackaaJMore
namespace Go.J
set_option linter.unusedSimpArgs false
set_option linter.unusedVariables false
open Go.RowKit
/-- does operation t wait for operation i? -/
def reachB' (ops : Array Oper) : Nat → Nat → Nat → Bool
  | 0, _, _ => false
  | f + 1, t, i => match ops[t]? with
    | some o => depsOf o.after i || o.after.toList.any fun e => Region.binds .any e && reachB' ops f e.on i
    | none => false
theorem reachB'_spec {ops : Array Oper} {n i : Nat} {listed : Array Bool} (inv : HeadInv .any ops n listed) : ∀ (f t : Nat) (o : Oper), ops[t]? = some o → (∀ e ∈ o.after, Region.binds .any e = true → listed.getD e.on false = true) → reachB' ops f t i = true → listed.getD i false = true := by
  intro f
  induction f with
  | zero => intro t o _ _ h; cases h
  | succ f ih =>
    intro t o ho hd h
    simp only [reachB', ho, Bool.or_eq_true, List.any_eq_true, Bool.and_eq_true] at h
    rcases h with h | ⟨e, he, hb, h⟩
    · obtain ⟨e, he, h1, h2⟩ := depsOf_spec h
      rw [← h1]; exact hd e he h2
    · have he' : e ∈ o.after := Array.mem_toList_iff.1 he
      have hl := hd e he' hb
      cases f with
      | zero => cases h
      | succ f =>
        cases ho2 : ops[e.on]? with
        | none => simp only [reachB', ho2] at h; cases h
        | some o2 => exact ih e.on o2 ho2 (inv.closed e.on o2 ho2 hl) h
def waitB (ops : Array Oper) (m n : Nat) : Bool := (List.range ops.size).all fun t => Nat.blt t n || (List.range n).all fun i => Nat.blt i m || reachB' ops 9 t i
theorem waitB_spec {ops : Array Oper} {m n : Nat} (h : waitB ops m n = true) : ∀ listed, HeadInv .any ops n listed → ∀ i, i < n → listed.getD i true = false → (∀ j, j < m → listed.getD j false = true) → ∀ t, n ≤ t → t ∉ Region.ready .any ops listed := by
  intro listed inv i hi hl hm t ht hr
  obtain ⟨_, o, ho, hd⟩ := mem_ready.1 hr
  have hts : t < ops.size := (Array.getElem?_eq_some_iff.1 ho).1
  have h1 := List.all_eq_true.1 h t (List.mem_range.2 hts)
  have hb : Nat.blt t n = false := by
    cases hc : Nat.blt t n with
    | false => rfl
    | true => have := Nat.lt_of_succ_le (Nat.le_of_ble_eq_true hc); omega
  rw [hb, Bool.false_or] at h1
  have h2 := List.all_eq_true.1 h1 i (List.mem_range.2 hi)
  have him : Nat.blt i m = false := by
    cases hc : Nat.blt i m with
    | false => rfl
    | true =>
      have := hm i (Nat.lt_of_succ_le (Nat.le_of_ble_eq_true hc))
      have h3 := getD_both hl
      rw [h3] at this; cases this
  rw [him, Bool.false_or] at h2
  have := reachB'_spec inv 9 t o ho hd h2
  rw [getD_both hl] at this
  cases this
section
variable {P : Program} {N : Sz} {ops : Array Oper} {Q : Exit → Act → World → Prop} {fr : Fr} {w w0 : World} {L : List HP}
/-- what is left of a region that draws its order, when its first m operations are done -/
def DR (P : Program) (N : Sz) (ops : Array Oper) (Q : Exit → Act → World → Prop) (m : Nat) (fr : Fr) (w : World) : Prop := ∀ a, Has N fr a → wpAnyIn (wideR N.ro) 0 P .any ops Q (ops.size - m) (pre ops m) a w
theorem JC.drawS {id : Nat} (H : Own w0 w L) (hm : P.follows .mixedOrders = true) (k : ∀ w1, Own w0 w1 L → DR P N ops Q 0 fr w1) : JC P N (.region id ops true) Q fr w := by
  intro a Ha
  refine wpIn_region_any hm ?_
  have h := k _ H.drew a Ha
  have e1 : pre ops 0 = Array.replicate ops.size false := by simp [pre]
  rw [e1] at h
  exact h
theorem DR.any (m n : Nat) (H : Own w0 w L) (hc : (backB ops && Nat.ble m n && Nat.ble n ops.size && waitB ops m n && freshB (ops.toList.take n)) = true)
    (k : JD P N ops Q n [] (fun _ => L) w0 (frAtM ops m n fr) (fun fr w => DR P N ops Q n fr w) ((ops.toList.take n).drop m) m []) : DR P N ops Q m fr w := by
  intro a Ha
  simp only [Bool.and_eq_true] at hc
  obtain ⟨⟨⟨⟨h1, h2⟩, h3⟩, h4⟩, h5⟩ := hc
  exact draw_seg (Nat.le_of_ble_eq_true h2) h1 (Nat.le_of_ble_eq_true h3) rfl (by simp) (waitB_spec h4) (fun fr a w Hf hz => hz a Hf) h5 H rfl Ha k
theorem DR.op {m : Nat} {o : Oper} (ho : ops[m]? = some o) (hr : Region.ready .any ops (pre ops m) = [m]) (h : JL P N ops (Exit.then (fun a w => wpAnyIn (wideR N.ro) 0 P .any ops Q (ops.size - (m + 1)) (pre ops (m + 1)) a w) Q) [o] fr w) : DR P N ops Q m fr w := by
  intro a Ha
  have hm : m < ops.size := (Array.getElem?_eq_some_iff.1 ho).1
  have hset : (pre ops m).setIfInBounds m true = pre ops (m + 1) := by
    apply Array.ext
    · simp [pre]; omega
    · intro i h1 h2
      by_cases hi : i = m
      · subst hi
        have := pre_lt (ops := ops) (n := i + 1) (j := i) (by omega) false
        simp [h2] at this
        simp [this]
      · have h3 := getD_set_ne (listed := pre ops m) (i := m) (j := i) false (fun h => hi h.symm)
        have h4 : (pre ops m).getD i false = (pre ops (m + 1)).getD i false := by
          rcases Nat.lt_or_ge i m with h | h
          · rw [pre_lt h, pre_lt (by omega)]
          · rw [pre_ge h, pre_ge (by omega)]
        rw [h4] at h3
        rw [Array.getD_eq_getD_getElem?, Array.getD_eq_getD_getElem?, Array.getElem?_eq_getElem h1, Array.getElem?_eq_getElem h2] at h3
        exact h3
  have hw := h a Ha
  rw [show ops.size - m = (ops.size - (m + 1)) + 1 by omega]
  refine ⟨fun hr' => (by rw [hr] at hr'; cases hr'), fun i hi => ?_⟩
  rw [hr] at hi
  simp at hi
  subst hi
  rw [hset]
  unfold wpOpIn
  rw [ho]
  simp only
  unfold wpListIn at hw
  split at hw
  · rename_i hwant
    rw [if_pos hwant]
    refine Oper.wpIn_exits (fun e a w hne q => ?_) hw
    cases e <;> first | exact absurd rfl hne | exact q
  · rename_i hwant
    rw [if_neg hwant]
    exact ⟨fun _ _ => trivial, hw.2⟩
theorem DR.next {m : Nat} (h : DR P N ops Q m fr w) : JL P N ops (Exit.then (fun a w => wpAnyIn (wideR N.ro) 0 P .any ops Q (ops.size - m) (pre ops m) a w) Q) [] fr w := h
theorem DR.done {m : Nat} (hm : Nat.beq m ops.size = true) (k : Ex N Q .normal fr w) : DR P N ops Q m fr w := by
  intro a Ha
  have := Nat.eq_of_beq_eq_true hm
  subst this
  rw [Nat.sub_self]
  refine ⟨?_, k a Ha⟩
  rw [List.eq_nil_iff_forall_not_mem]
  intro j hj
  obtain ⟨h1, o, ho, _⟩ := mem_ready.1 hj
  have := (Array.getElem?_eq_some_iff.1 ho).1
  rw [pre_lt this] at h1
  cases h1
end
end Go.J
