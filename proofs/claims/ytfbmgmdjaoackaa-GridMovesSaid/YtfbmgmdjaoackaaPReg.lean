/-
  Lemmas for the statements of this seat; no statement is proved here. No condition.
-/
import Derived.Test.YtfbmgmdjaoackaaPCov
namespace Go.J
set_option linter.unusedSimpArgs false
set_option linter.unusedVariables false
/-! plain: a region's runs are known by its cells -/
/-- runs in order, none of which touch, within W times H cells -/
structure Canon (W H : Int) (rs : List Run) : Prop where
  rng : ∀ r ∈ rs, (0 ≤ r.Y ∧ r.Y < H) ∧ 0 ≤ r.From ∧ r.From < r.To ∧ r.To ≤ W
  ord : rs.Pairwise fun r s => r.Y < s.Y ∨ r.Y = s.Y ∧ r.To < s.From
theorem canon_of_rightFrom {W H : Int} : ∀ {rs : List Run} {l : Run}, rightFrom W H l rs = true → Canon W H rs ∧ ∀ r ∈ rs, l.Y < r.Y ∨ l.Y = r.Y ∧ l.To < r.From := by
  intro rs
  induction rs with
  | nil => intro l _; exact ⟨⟨by simp, List.Pairwise.nil⟩, by simp⟩
  | cons x rs ih =>
    intro l h
    simp only [rightFrom, Bool.and_eq_true, decide_eq_true_eq] at h
    obtain ⟨h1, h2⟩ := h
    obtain ⟨h3, h4⟩ := ih h2
    unfold Run.ok at h1
    refine ⟨⟨fun r hr => ?_, List.pairwise_cons.2 ⟨h4, h3.ord⟩⟩, fun r hr => ?_⟩
    · cases hr with
      | head => omega
      | tail _ hr => exact h3.rng r hr
    · cases hr with
      | head => omega
      | tail _ hr => have := h4 r hr; omega
theorem rightFrom_of_canon {W H : Int} : ∀ {rs : List Run} {l : Run}, Canon W H rs → (∀ r ∈ rs, l.Y < r.Y ∨ l.Y = r.Y ∧ l.To < r.From) → rightFrom W H l rs = true := by
  intro rs
  induction rs with
  | nil => intro l _ _; rfl
  | cons x rs ih =>
    intro l h hl
    simp only [rightFrom, Bool.and_eq_true, decide_eq_true_eq]
    have hx := h.rng x (by simp)
    have hlx := hl x (by simp)
    refine ⟨?_, ih ⟨fun r hr => h.rng r (List.mem_cons_of_mem _ hr), (List.pairwise_cons.1 h.ord).2⟩ (List.pairwise_cons.1 h.ord).1⟩
    unfold Run.ok
    omega
theorem right_iff {W H : Int} {rs : List Run} : rightB W H rs = true ↔ Canon W H rs ∧ rs.length ≤ 8192 := by
  unfold rightB
  rw [Bool.and_eq_true, decide_eq_true_eq]
  constructor
  · rintro ⟨h1, h2⟩; exact ⟨(canon_of_rightFrom h1).1, h2⟩
  · rintro ⟨h1, h2⟩
    refine ⟨rightFrom_of_canon h1 fun r hr => ?_, h2⟩
    have := h1.rng r hr
    simp only
    omega
/-- a run as a span of all the grid's cells, row behind row, a place between two rows -/
def toSpan (W : Int) (r : Run) : Span := ⟨r.Y * (W + 1) + r.From, r.Y * (W + 1) + r.To⟩
theorem row_lt {W y y' x : Int} (hW : 0 ≤ W) (h : y < y') (hx : x ≤ W) : y * (W + 1) + x < y' * (W + 1) := by
  have h1 : (y + 1) * (W + 1) ≤ y' * (W + 1) := Int.mul_le_mul_of_nonneg_right (by omega) (by omega)
  rw [Int.add_mul] at h1
  omega
theorem row_inj {W y y' x x' : Int} (hW : 0 ≤ W) (hx : 0 ≤ x ∧ x ≤ W) (hx' : 0 ≤ x' ∧ x' ≤ W) (h : y * (W + 1) + x = y' * (W + 1) + x') : y = y' ∧ x = x' := by
  rcases Int.lt_trichotomy y y' with h1 | h1 | h1
  · have := row_lt hW h1 hx.2; omega
  · subst h1; omega
  · have := row_lt hW h1 hx'.2; omega
theorem Canon.sep {W H : Int} {rs : List Run} (h : Canon W H rs) (hW : 0 ≤ W) : SpSep (rs.map (toSpan W)) := by
  constructor
  · rw [List.pairwise_map]
    have : rs.Pairwise fun r s => r ∈ rs ∧ s ∈ rs ∧ (r.Y < s.Y ∨ r.Y = s.Y ∧ r.To < s.From) := List.Pairwise.imp_of_mem (fun ha hb h => ⟨ha, hb, h⟩) h.ord
    refine this.imp ?_
    rintro r s ⟨hr, hs, h1⟩
    have h2 := h.rng r hr
    have h3 := h.rng s hs
    simp only [toSpan]
    rcases h1 with h1 | ⟨h1, h4⟩
    · have := row_lt hW h1 h2.2.2.2; omega
    · rw [h1]; omega
  · intro s hs
    obtain ⟨r, hr, rfl⟩ := List.mem_map.1 hs
    have := h.rng r hr
    simp only [toSpan]
    omega
theorem Canon.cov {W H : Int} {rs : List Run} (h : Canon W H rs) (hW : 0 ≤ W) {x y : Int} (hx : 0 ≤ x ∧ x ≤ W) : spCov (rs.map (toSpan W)) (y * (W + 1) + x) ↔ hasB rs ⟨x, y⟩ = true := by
  rw [hasB_iff]
  constructor
  · rintro ⟨s, hs, h1, h2⟩
    obtain ⟨r, hr, rfl⟩ := List.mem_map.1 hs
    have h3 := h.rng r hr
    simp only [toSpan] at h1 h2
    have hy : r.Y = y := by
      rcases Int.lt_trichotomy r.Y y with h4 | h4 | h4
      · have := row_lt hW h4 h3.2.2.2; omega
      · exact h4
      · have := row_lt hW h4 hx.2; omega
    subst hy
    exact ⟨r, hr, rfl, by simp only; omega, by simp only; omega⟩
  · rintro ⟨r, hr, h1, h2, h3⟩
    simp only at h1 h2 h3
    subst h1
    exact ⟨_, List.mem_map.2 ⟨r, hr, rfl⟩, by simp only [toSpan]; omega, by simp only [toSpan]; omega⟩
theorem canon_unique {W H : Int} (hW : 0 ≤ W) {a b : List Run} (ha : Canon W H a) (hb : Canon W H b) (h : ∀ c : Cell, hasB a c = true ↔ hasB b c = true) : a = b := by
  have hs : a.map (toSpan W) = b.map (toSpan W) := by
    refine sep_unique _ _ (ha.sep hW) (hb.sep hW) fun n => ?_
    have h1 := Int.emod_add_mul_ediv n (W + 1)
    have h2 := Int.emod_nonneg n (show W + 1 ≠ 0 by omega)
    have h3 := Int.emod_lt_of_pos n (show 0 < W + 1 by omega)
    have h4 : n = n / (W + 1) * (W + 1) + n % (W + 1) := by rw [Int.mul_comm]; omega
    rw [h4, ha.cov hW (by omega), hb.cov hW (by omega)]
    exact h _
  clear h
  induction a generalizing b with
  | nil => cases b with
    | nil => rfl
    | cons y b => cases hs
  | cons x a ih => cases b with
    | nil => cases hs
    | cons y b =>
      simp only [List.map_cons, List.cons.injEq] at hs
      have hx := ha.rng x (by simp)
      have hy := hb.rng y (by simp)
      have e := hs.1
      simp only [toSpan, Span.mk.injEq] at e
      have e1 := row_inj hW (by omega) (by omega) e.1
      have e2 := row_inj hW (by omega) (by omega) e.2
      have hxy : x = y := by
        cases x; cases y
        simp only at e1 e2
        simp [e1.1, e1.2, e2.2]
      rw [hxy, ih ⟨fun r hr => ha.rng r (List.mem_cons_of_mem _ hr), (List.pairwise_cons.1 ha.ord).2⟩ ⟨fun r hr => hb.rng r (List.mem_cons_of_mem _ hr), (List.pairwise_cons.1 hb.ord).2⟩ hs.2]
theorem sep_len : ∀ {l : List Span} {lo hi : Int}, SpSep l → (∀ s ∈ l, lo ≤ s.a ∧ s.b ≤ hi) → lo ≤ hi + 1 → 2 * (l.length : Int) ≤ hi - lo + 1 := by
  intro l
  induction l with
  | nil => intro lo hi _ _ h; simp; omega
  | cons s l ih =>
    intro lo hi h hr _
    have h1 := h.2 s (by simp)
    have h2 := hr s (by simp)
    have h3 := (List.pairwise_cons.1 h.1)
    have h4 := ih (lo := s.b + 1) (hi := hi) ⟨h3.2, fun t ht => h.2 t (List.mem_cons_of_mem _ ht)⟩ (fun t ht => ⟨by have := h3.1 t ht; omega, (hr t (List.mem_cons_of_mem _ ht)).2⟩) (by omega)
    simp only [List.length_cons]
    omega
theorem Canon.len {W H : Int} {rs : List Run} (h : Canon W H rs) (hW : 0 ≤ W) (hH : 1 ≤ H) : 2 * (rs.length : Int) ≤ H * (W + 1) := by
  have h1 := sep_len (lo := 0) (hi := H * (W + 1) - 1) (h.sep hW) (fun s hs => by
    obtain ⟨r, hr, rfl⟩ := List.mem_map.1 hs
    have h2 := h.rng r hr
    simp only [toSpan]
    have h3 : 0 ≤ r.Y * (W + 1) := Int.mul_nonneg (by omega) (by omega)
    have h4 := row_lt hW (show r.Y < H by omega) h2.2.2.2
    omega) (by have := Int.mul_nonneg (show 0 ≤ H by omega) (show 0 ≤ W + 1 by omega); omega)
  simpa using h1
/-- behind row H there is nothing -/
def Tab.low (H : Int) (T : Tab) : Prop := ∀ y : Nat, H ≤ y → T.getD y [] = []
theorem tab0_low (H : Int) : Tab.low H tab0 := by
  intro y _
  unfold tab0
  rw [List.getD_eq_getElem?_getD, List.getElem?_replicate]
  split <;> rfl
theorem Tab.low.add {H : Int} {T : Tab} (h : Tab.low H T) (W y a b : Int) : Tab.low H (T.add W H y a b) := by
  intro Y hY
  unfold Tab.add
  split
  · rename_i hc
    rw [List.getD_eq_getElem?_getD, List.getElem?_set_ne (by omega), ← List.getD_eq_getElem?_getD]
    exact h Y hY
  · exact h Y hY
theorem outR_canon {W : Int} {k : Nat} {T : Tab} (hg : Tab.good W k T) {H : Int} (hl : Tab.low H T) : ∀ y, Canon W H (outR T y) ∧ ∀ r ∈ outR T y, r.Y < y := by
  have hrow : ∀ y, SpSep (norm (T.getD y [])) ∧ ∀ s ∈ norm (T.getD y []), 0 ≤ s.a ∧ s.b ≤ W := by
    intro y
    have h1 := norm_ok (l := T.getD y []) fun s hs => by
      obtain ⟨l, hl, hs'⟩ := mem_getD hs
      exact (hg.ne l hl s hs').1
    refine ⟨h1.1, fun s hs => ?_⟩
    have h2 := h1.1.2 s hs
    obtain ⟨t, ht, h3, h4⟩ := (h1.2 s.a).1 ⟨s, hs, by omega, h2⟩
    obtain ⟨u, hu, h5, h6⟩ := (h1.2 (s.b - 1)).1 ⟨s, hs, by omega, by omega⟩
    obtain ⟨l, hl, ht'⟩ := mem_getD ht
    obtain ⟨l', hl', hu'⟩ := mem_getD hu
    have := hg.ne l hl t ht'
    have := hg.ne l' hl' u hu'
    omega
  intro y
  induction y with
  | zero => exact ⟨⟨by simp [outR], by simp [outR]⟩, by simp [outR]⟩
  | succ y ih =>
    rw [outR_succ]
    have hmem : ∀ r ∈ rowR T y, r.Y = y ∧ ∃ s ∈ norm (T.getD y []), r.From = s.a ∧ r.To = s.b := by
      intro r hr
      unfold rowR at hr
      obtain ⟨s, hs, rfl⟩ := List.mem_map.1 hr
      exact ⟨rfl, s, hs, rfl, rfl⟩
    refine ⟨⟨fun r hr => ?_, ?_⟩, fun r hr => ?_⟩
    · rcases List.mem_append.1 hr with hr | hr
      · exact ih.1.rng r hr
      · obtain ⟨h1, s, hs, h2, h3⟩ := hmem r hr
        have h4 := (hrow y).2 s hs
        have h5 := (hrow y).1.2 s hs
        have h6 : (y : Int) < H := by
          rcases Int.lt_or_le y H with h | h
          · exact h
          · rw [hl y h] at hs
            cases hs
        omega
    · rw [List.pairwise_append]
      refine ⟨ih.1.ord, ?_, fun r hr s hs => ?_⟩
      · unfold rowR
        rw [List.pairwise_map]
        exact (hrow y).1.1.imp fun h => .inr ⟨rfl, h⟩
      · have := ih.2 r hr
        have := (hmem s hs).1
        left; omega
    · rcases List.mem_append.1 hr with hr | hr
      · have := ih.2 r hr; omega
      · have := (hmem r hr).1; omega
theorem regR_canon {W : Int} {k : Nat} {T : Tab} (hg : Tab.good W k T) {H : Int} (hl : Tab.low H T) : Canon W H (regR T) := (outR_canon hg hl 256).1
theorem regR_right {W : Int} {k : Nat} {T : Tab} (hg : Tab.good W k T) {H : Int} (hl : Tab.low H T) (h : (regR T).length ≤ 8192) : rightB W H (regR T) = true := right_iff.2 ⟨regR_canon hg hl, h⟩
/-- a small grid's regions fit -/
theorem regRes_fits {W : Int} {k : Nat} {T : Tab} (hg : Tab.good W k T) {H : Int} (hl : Tab.low H T) (hW : 1 ≤ W) (hH : 1 ≤ H) (hWH : W * H ≤ 4096) : regRes T = (regR T, 0) ∧ (regR T).length ≤ 4096 ∧ rightB W H (regR T) = true := by
  have h1 := (regR_canon hg hl).len (by omega) hH
  have h2 : H ≤ W * H := by
    have := Int.mul_le_mul_of_nonneg_right hW (show 0 ≤ H by omega)
    omega
  rw [Int.mul_add, Int.mul_comm H W] at h1
  have h3 : (regR T).length ≤ 4096 := by omega
  refine ⟨?_, h3, regR_right hg hl (by omega)⟩
  unfold regRes
  rw [if_pos (by omega)]
end Go.J
