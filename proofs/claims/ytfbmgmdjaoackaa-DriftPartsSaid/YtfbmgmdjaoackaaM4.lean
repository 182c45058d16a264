/-
  Lemmas for the statements of this seat; no statement is proved here. No condition.
-/
import Derived.Test.YtfbmgmdjaoackaaM3
import Derived.MapKept
import Derived.Maps.RangeRun
import Derived.RangeFuncSeq
namespace Go.J
set_option linter.unusedSimpArgs false
set_option linter.unusedVariables false
/-! plain: a region's runs are known by its cells -/
/-- runs in order, none of which touch, within W times H cells -/
structure Canon (W H : Int) (rs : List Run) : Prop where
  rng : ∀ r ∈ rs, (0 ≤ r.Y ∧ r.Y < H) ∧ 0 ≤ r.From ∧ r.From < r.To ∧ r.To ≤ W
  ord : rs.Pairwise fun r s => r.Y < s.Y ∨ r.Y = s.Y ∧ r.To < s.From
theorem canon_of_rightFrom {W H : Int} : ∀ {rs : List Run} {l : Run}, rightFrom W H l rs = true → Canon W H rs ∧ ∀ r ∈ rs, l.Y < r.Y ∨ l.Y = r.Y ∧ l.To < r.From := by
  intro rs
  induction rs with
  | nil => intro l _; exact ⟨⟨by simp, List.Pairwise.nil⟩, by simp⟩
  | cons x rs ih =>
    intro l h
    simp only [rightFrom, Bool.and_eq_true, decide_eq_true_eq] at h
    obtain ⟨h1, h2⟩ := h
    obtain ⟨h3, h4⟩ := ih h2
    unfold Run.ok at h1
    refine ⟨⟨fun r hr => ?_, List.pairwise_cons.2 ⟨h4, h3.ord⟩⟩, fun r hr => ?_⟩
    · cases hr with
      | head => omega
      | tail _ hr => exact h3.rng r hr
    · cases hr with
      | head => omega
      | tail _ hr => have := h4 r hr; omega
theorem rightFrom_of_canon {W H : Int} : ∀ {rs : List Run} {l : Run}, Canon W H rs → (∀ r ∈ rs, l.Y < r.Y ∨ l.Y = r.Y ∧ l.To < r.From) → rightFrom W H l rs = true := by
  intro rs
  induction rs with
  | nil => intro l _ _; rfl
  | cons x rs ih =>
    intro l h hl
    simp only [rightFrom, Bool.and_eq_true, decide_eq_true_eq]
    have hx := h.rng x (by simp)
    have hlx := hl x (by simp)
    refine ⟨?_, ih ⟨fun r hr => h.rng r (List.mem_cons_of_mem _ hr), (List.pairwise_cons.1 h.ord).2⟩ (List.pairwise_cons.1 h.ord).1⟩
    unfold Run.ok
    omega
theorem right_iff {W H : Int} {rs : List Run} : rightB W H rs = true ↔ Canon W H rs ∧ rs.length ≤ 8192 := by
  unfold rightB
  rw [Bool.and_eq_true, decide_eq_true_eq]
  constructor
  · rintro ⟨h1, h2⟩; exact ⟨(canon_of_rightFrom h1).1, h2⟩
  · rintro ⟨h1, h2⟩
    refine ⟨rightFrom_of_canon h1 fun r hr => ?_, h2⟩
    have := h1.rng r hr
    simp only
    omega
/-- a run as a span of all the grid's cells, row behind row, a place between two rows -/
def toSpan (W : Int) (r : Run) : Span := ⟨r.Y * (W + 1) + r.From, r.Y * (W + 1) + r.To⟩
theorem row_lt {W y y' x : Int} (hW : 0 ≤ W) (h : y < y') (hx : x ≤ W) : y * (W + 1) + x < y' * (W + 1) := by
  have h1 : (y + 1) * (W + 1) ≤ y' * (W + 1) := Int.mul_le_mul_of_nonneg_right (by omega) (by omega)
  rw [Int.add_mul] at h1
  omega
theorem row_inj {W y y' x x' : Int} (hW : 0 ≤ W) (hx : 0 ≤ x ∧ x ≤ W) (hx' : 0 ≤ x' ∧ x' ≤ W) (h : y * (W + 1) + x = y' * (W + 1) + x') : y = y' ∧ x = x' := by
  rcases Int.lt_trichotomy y y' with h1 | h1 | h1
  · have := row_lt hW h1 hx.2; omega
  · subst h1; omega
  · have := row_lt hW h1 hx'.2; omega
theorem Canon.sep {W H : Int} {rs : List Run} (h : Canon W H rs) (hW : 0 ≤ W) : SpSep (rs.map (toSpan W)) := by
  constructor
  · rw [List.pairwise_map]
    have : rs.Pairwise fun r s => r ∈ rs ∧ s ∈ rs ∧ (r.Y < s.Y ∨ r.Y = s.Y ∧ r.To < s.From) := List.Pairwise.imp_of_mem (fun ha hb h => ⟨ha, hb, h⟩) h.ord
    refine this.imp ?_
    rintro r s ⟨hr, hs, h1⟩
    have h2 := h.rng r hr
    have h3 := h.rng s hs
    simp only [toSpan]
    rcases h1 with h1 | ⟨h1, h4⟩
    · have := row_lt hW h1 h2.2.2.2; omega
    · rw [h1]; omega
  · intro s hs
    obtain ⟨r, hr, rfl⟩ := List.mem_map.1 hs
    have := h.rng r hr
    simp only [toSpan]
    omega
theorem Canon.cov {W H : Int} {rs : List Run} (h : Canon W H rs) (hW : 0 ≤ W) {x y : Int} (hx : 0 ≤ x ∧ x ≤ W) : spCov (rs.map (toSpan W)) (y * (W + 1) + x) ↔ hasB rs ⟨x, y⟩ = true := by
  rw [hasB_iff]
  constructor
  · rintro ⟨s, hs, h1, h2⟩
    obtain ⟨r, hr, rfl⟩ := List.mem_map.1 hs
    have h3 := h.rng r hr
    simp only [toSpan] at h1 h2
    have hy : r.Y = y := by
      rcases Int.lt_trichotomy r.Y y with h4 | h4 | h4
      · have := row_lt hW h4 h3.2.2.2; omega
      · exact h4
      · have := row_lt hW h4 hx.2; omega
    subst hy
    exact ⟨r, hr, rfl, by simp only; omega, by simp only; omega⟩
  · rintro ⟨r, hr, h1, h2, h3⟩
    simp only at h1 h2 h3
    subst h1
    exact ⟨_, List.mem_map.2 ⟨r, hr, rfl⟩, by simp only [toSpan]; omega, by simp only [toSpan]; omega⟩
theorem canon_unique {W H : Int} (hW : 0 ≤ W) {a b : List Run} (ha : Canon W H a) (hb : Canon W H b) (h : ∀ c : Cell, hasB a c = true ↔ hasB b c = true) : a = b := by
  have hs : a.map (toSpan W) = b.map (toSpan W) := by
    refine sep_unique _ _ (ha.sep hW) (hb.sep hW) fun n => ?_
    have h1 := Int.emod_add_mul_ediv n (W + 1)
    have h2 := Int.emod_nonneg n (show W + 1 ≠ 0 by omega)
    have h3 := Int.emod_lt_of_pos n (show 0 < W + 1 by omega)
    have h4 : n = n / (W + 1) * (W + 1) + n % (W + 1) := by rw [Int.mul_comm]; omega
    rw [h4, ha.cov hW (by omega), hb.cov hW (by omega)]
    exact h _
  clear h
  induction a generalizing b with
  | nil => cases b with
    | nil => rfl
    | cons y b => cases hs
  | cons x a ih => cases b with
    | nil => cases hs
    | cons y b =>
      simp only [List.map_cons, List.cons.injEq] at hs
      have hx := ha.rng x (by simp)
      have hy := hb.rng y (by simp)
      have e := hs.1
      simp only [toSpan, Span.mk.injEq] at e
      have e1 := row_inj hW (by omega) (by omega) e.1
      have e2 := row_inj hW (by omega) (by omega) e.2
      have hxy : x = y := by
        cases x; cases y
        simp only at e1 e2
        simp [e1.1, e1.2, e2.2]
      rw [hxy, ih ⟨fun r hr => ha.rng r (List.mem_cons_of_mem _ hr), (List.pairwise_cons.1 ha.ord).2⟩ ⟨fun r hr => hb.rng r (List.mem_cons_of_mem _ hr), (List.pairwise_cons.1 hb.ord).2⟩ hs.2]
theorem sep_len : ∀ {l : List Span} {lo hi : Int}, SpSep l → (∀ s ∈ l, lo ≤ s.a ∧ s.b ≤ hi) → lo ≤ hi + 1 → 2 * (l.length : Int) ≤ hi - lo + 1 := by
  intro l
  induction l with
  | nil => intro lo hi _ _ h; simp; omega
  | cons s l ih =>
    intro lo hi h hr _
    have h1 := h.2 s (by simp)
    have h2 := hr s (by simp)
    have h3 := (List.pairwise_cons.1 h.1)
    have h4 := ih (lo := s.b + 1) (hi := hi) ⟨h3.2, fun t ht => h.2 t (List.mem_cons_of_mem _ ht)⟩ (fun t ht => ⟨by have := h3.1 t ht; omega, (hr t (List.mem_cons_of_mem _ ht)).2⟩) (by omega)
    simp only [List.length_cons]
    omega
theorem Canon.len {W H : Int} {rs : List Run} (h : Canon W H rs) (hW : 0 ≤ W) (hH : 1 ≤ H) : 2 * (rs.length : Int) ≤ H * (W + 1) := by
  have h1 := sep_len (lo := 0) (hi := H * (W + 1) - 1) (h.sep hW) (fun s hs => by
    obtain ⟨r, hr, rfl⟩ := List.mem_map.1 hs
    have h2 := h.rng r hr
    simp only [toSpan]
    have h3 : 0 ≤ r.Y * (W + 1) := Int.mul_nonneg (by omega) (by omega)
    have h4 := row_lt hW (show r.Y < H by omega) h2.2.2.2
    omega) (by have := Int.mul_nonneg (show 0 ≤ H by omega) (show 0 ≤ W + 1 by omega); omega)
  simpa using h1
/-- behind row H there is nothing -/
def Tab.low (H : Int) (T : Tab) : Prop := ∀ y : Nat, H ≤ y → T.getD y [] = []
theorem tab0_low (H : Int) : Tab.low H tab0 := by
  intro y _
  unfold tab0
  rw [List.getD_eq_getElem?_getD, List.getElem?_replicate]
  split <;> rfl
theorem Tab.low.add {H : Int} {T : Tab} (h : Tab.low H T) (W y a b : Int) : Tab.low H (T.add W H y a b) := by
  intro Y hY
  unfold Tab.add
  split
  · rename_i hc
    rw [List.getD_eq_getElem?_getD, List.getElem?_set_ne (by omega), ← List.getD_eq_getElem?_getD]
    exact h Y hY
  · exact h Y hY
theorem outR_canon {W : Int} {k : Nat} {T : Tab} (hg : Tab.good W k T) {H : Int} (hl : Tab.low H T) : ∀ y, Canon W H (outR T y) ∧ ∀ r ∈ outR T y, r.Y < y := by
  have hrow : ∀ y, SpSep (norm (T.getD y [])) ∧ ∀ s ∈ norm (T.getD y []), 0 ≤ s.a ∧ s.b ≤ W := by
    intro y
    have h1 := norm_ok (l := T.getD y []) fun s hs => by
      obtain ⟨l, hl, hs'⟩ := mem_getD hs
      exact (hg.ne l hl s hs').1
    refine ⟨h1.1, fun s hs => ?_⟩
    have h2 := h1.1.2 s hs
    obtain ⟨t, ht, h3, h4⟩ := (h1.2 s.a).1 ⟨s, hs, by omega, h2⟩
    obtain ⟨u, hu, h5, h6⟩ := (h1.2 (s.b - 1)).1 ⟨s, hs, by omega, by omega⟩
    obtain ⟨l, hl, ht'⟩ := mem_getD ht
    obtain ⟨l', hl', hu'⟩ := mem_getD hu
    have := hg.ne l hl t ht'
    have := hg.ne l' hl' u hu'
    omega
  intro y
  induction y with
  | zero => exact ⟨⟨by simp [outR], by simp [outR]⟩, by simp [outR]⟩
  | succ y ih =>
    rw [outR_succ]
    have hmem : ∀ r ∈ rowR T y, r.Y = y ∧ ∃ s ∈ norm (T.getD y []), r.From = s.a ∧ r.To = s.b := by
      intro r hr
      unfold rowR at hr
      obtain ⟨s, hs, rfl⟩ := List.mem_map.1 hr
      exact ⟨rfl, s, hs, rfl, rfl⟩
    refine ⟨⟨fun r hr => ?_, ?_⟩, fun r hr => ?_⟩
    · rcases List.mem_append.1 hr with hr | hr
      · exact ih.1.rng r hr
      · obtain ⟨h1, s, hs, h2, h3⟩ := hmem r hr
        have h4 := (hrow y).2 s hs
        have h5 := (hrow y).1.2 s hs
        have h6 : (y : Int) < H := by
          rcases Int.lt_or_le y H with h | h
          · exact h
          · rw [hl y h] at hs
            cases hs
        omega
    · rw [List.pairwise_append]
      refine ⟨ih.1.ord, ?_, fun r hr s hs => ?_⟩
      · unfold rowR
        rw [List.pairwise_map]
        exact (hrow y).1.1.imp fun h => .inr ⟨rfl, h⟩
      · have := ih.2 r hr
        have := (hmem s hs).1
        left; omega
    · rcases List.mem_append.1 hr with hr | hr
      · have := ih.2 r hr; omega
      · have := (hmem r hr).1; omega
theorem regR_canon {W : Int} {k : Nat} {T : Tab} (hg : Tab.good W k T) {H : Int} (hl : Tab.low H T) : Canon W H (regR T) := (outR_canon hg hl 256).1
theorem regR_right {W : Int} {k : Nat} {T : Tab} (hg : Tab.good W k T) {H : Int} (hl : Tab.low H T) (h : (regR T).length ≤ 8192) : rightB W H (regR T) = true := right_iff.2 ⟨regR_canon hg hl, h⟩
/-- a small grid's regions fit -/
theorem regRes_fits {W : Int} {k : Nat} {T : Tab} (hg : Tab.good W k T) {H : Int} (hl : Tab.low H T) (hW : 1 ≤ W) (hH : 1 ≤ H) (hWH : W * H ≤ 4096) : regRes T = (regR T, 0) ∧ (regR T).length ≤ 4096 ∧ rightB W H (regR T) = true := by
  have h1 := (regR_canon hg hl).len (by omega) hH
  have h2 : H ≤ W * H := by
    have := Int.mul_le_mul_of_nonneg_right hW (show 0 ≤ H by omega)
    omega
  rw [Int.mul_add, Int.mul_comm H W] at h1
  have h3 : (regR T).length ≤ 4096 := by omega
  refine ⟨?_, h3, regR_right hg hl (by omega)⟩
  unfold regRes
  rw [if_pos (by omega)]
end Go.J

namespace Go.J
set_option linter.unusedSimpArgs false
set_option linter.unusedVariables false
/-! plain: unions, meets, differences and growing, by cells -/
theorem bothN_cov {W H : Int} (hH : H ≤ 256) : ∀ (n : Nat) (T : Tab) (a b : List Run), T.length = 256 → Canon W H a → Canon W H b → a.length + b.length ≤ n → ∀ (Y : Nat) (x : Int),
    tabCov (bothN W H n T a b) Y x ↔ tabCov T Y x ∨ ∃ r ∈ a, ∃ s ∈ b, (r.Y = Y ∧ s.Y = Y) ∧ (r.From ≤ x ∧ x < r.To) ∧ s.From ≤ x ∧ x < s.To := by
  intro n
  induction n with
  | zero =>
    intro T a b _ _ _ hn Y x
    have : a = [] := List.eq_nil_of_length_eq_zero (by omega)
    subst this
    cases b <;> simp [bothN]
  | succ n ih =>
    intro T a b hT ha hb hn Y X
    cases a with
    | nil => cases b <;> simp [bothN]
    | cons x a =>
      cases b with
      | nil => simp [bothN]
      | cons y b =>
        have hx := ha.rng x (by simp)
        have hy := hb.rng y (by simp)
        have ha' : Canon W H a := ⟨fun r hr => ha.rng r (List.mem_cons_of_mem _ hr), (List.pairwise_cons.1 ha.ord).2⟩
        have hb' : Canon W H b := ⟨fun r hr => hb.rng r (List.mem_cons_of_mem _ hr), (List.pairwise_cons.1 hb.ord).2⟩
        have hax := (List.pairwise_cons.1 ha.ord).1
        have hby := (List.pairwise_cons.1 hb.ord).1
        rw [bothN]
        obtain ⟨T', hT'⟩ : ∃ T', T' = if x.Y = y.Y then T.add W H x.Y (max x.From y.From) (min x.To y.To) else T := ⟨_, rfl⟩
        rw [← hT']
        have hl : T'.length = 256 := by rw [hT']; split <;> simp [Tab.add_len, hT]
        have hcov : tabCov T' Y X ↔ tabCov T Y X ∨ ((x.Y = Y ∧ y.Y = Y) ∧ (x.From ≤ X ∧ X < x.To) ∧ y.From ≤ X ∧ X < y.To) := by
          rw [hT']
          split
          · rw [add_cov hT hH]
            constructor
            · rintro (h | h)
              · exact .inl h
              · exact .inr (by omega)
            · rintro (h | h)
              · exact .inl h
              · exact .inr (by omega)
          · constructor
            · exact .inl
            · rintro (h | h)
              · exact h
              · exfalso; omega
        simp only [List.length_cons] at hn
        split
        · rename_i hc
          rw [ih T' a (y :: b) hl ha' hb (by simp only [List.length_cons]; omega) Y X, hcov]
          constructor
          · rintro ((h | h) | ⟨r, hr, s, hs, h⟩)
            · exact .inl h
            · exact .inr ⟨x, by simp, y, by simp, h⟩
            · exact .inr ⟨r, List.mem_cons_of_mem _ hr, s, hs, h⟩
          · rintro (h | ⟨r, hr, s, hs, h⟩)
            · exact .inl (.inl h)
            · cases hr with
              | head =>
                cases hs with
                | head => exact .inl (.inr h)
                | tail _ hs => have := hby s hs; exfalso; omega
              | tail _ hr => exact .inr ⟨r, hr, s, hs, h⟩
        · rename_i hc
          rw [ih T' (x :: a) b hl ha hb' (by simp only [List.length_cons]; omega) Y X, hcov]
          constructor
          · rintro ((h | h) | ⟨r, hr, s, hs, h⟩)
            · exact .inl h
            · exact .inr ⟨x, by simp, y, by simp, h⟩
            · exact .inr ⟨r, hr, s, List.mem_cons_of_mem _ hs, h⟩
          · rintro (h | ⟨r, hr, s, hs, h⟩)
            · exact .inl (.inl h)
            · cases hs with
              | head =>
                cases hr with
                | head => exact .inl (.inr h)
                | tail _ hr => have := hax r hr; exfalso; omega
              | tail _ hs => exact .inr ⟨r, hr, s, hs, h⟩
theorem bothN_low {W H : Int} : ∀ (n : Nat) (T : Tab) (a b : List Run), Tab.low H T → Tab.low H (bothN W H n T a b) := by
  intro n
  induction n with
  | zero => intro T a b h; cases a <;> cases b <;> exact h
  | succ n ih =>
    intro T a b h
    cases a with
    | nil => exact h
    | cons x a => cases b with
      | nil => exact h
      | cons y b =>
        rw [bothN]
        have h' : Tab.low H (if x.Y = y.Y then T.add W H x.Y (max x.From y.From) (min x.To y.To) else T) := by
          split
          · exact h.add _ _ _ _
          · exact h
        split <;> exact ih _ _ _ h'
/-- a cell of the grid -/
def inG (g : Grid) (c : Cell) : Prop := (0 ≤ c.X ∧ c.X < g.W) ∧ 0 ≤ c.Y ∧ c.Y < g.H
theorem canon_inG {g : Grid} {rs : List Run} (h : Canon g.W g.H rs) {c : Cell} (hc : hasB rs c = true) : inG g c := by
  obtain ⟨r, hr, h1, h2, h3⟩ := hasB_iff.1 hc
  have := h.rng r hr
  unfold inG
  omega
theorem both_has {g : Grid} (hg : g.ok = true) {a b : List Run} (ha : Canon g.W g.H a) (hb : Canon g.W g.H b) (c : Cell) : hasB (regR (bothT g.W g.H tab0 a b)) c = true ↔ hasB a c = true ∧ hasB b c = true := by
  obtain ⟨hW, hH, _, _⟩ := Grid.ok_b hg
  rw [regR_has (bothT_good g a b)]
  unfold bothT
  rw [hasB_iff, hasB_iff]
  constructor
  · rintro ⟨h1, h2, h3⟩
    rcases (bothN_cov hH.2 _ tab0 a b (tab0_good g.W).len ha hb (Nat.le_refl _) _ _).1 h3 with h | ⟨r, hr, s, hs, h⟩
    · exact absurd h (tabCov0 _ _)
    · exact ⟨⟨r, hr, by omega, h.2.1.1, h.2.1.2⟩, s, hs, by omega, h.2.2.1, h.2.2.2⟩
  · rintro ⟨⟨r, hr, h1, h2, h3⟩, s, hs, h4, h5, h6⟩
    have h7 := ha.rng r hr
    refine ⟨by omega, by omega, (bothN_cov hH.2 _ tab0 a b (tab0_good g.W).len ha hb (Nat.le_refl _) _ _).2 (.inr ⟨r, hr, s, hs, ⟨by omega, by omega⟩, ⟨h2, h3⟩, h5, h6⟩)⟩
theorem growRow_low {W H a b lo : Int} {T : Tab} (h : Tab.low H T) : ∀ n, Tab.low H (growRow W H a b lo T n) := by
  intro n
  induction n with
  | zero => exact h
  | succ n ih => rw [growRow_succ]; exact ih.add _ _ _ _
theorem growT_low (g : Grid) (l : Lead) : ∀ (rs : List Run) (T : Tab), Tab.low g.H T → Tab.low g.H (rs.foldl (grow1 g l) T) := by
  intro rs
  induction rs with
  | nil => intro T h; exact h
  | cons r rs ih => intro T h; exact ih _ (growRow_low h _)
theorem growT_all {g : Grid} (hH : 1 ≤ g.H ∧ g.H ≤ 256) (l : Lead) (rs : List Run) : Tab.good g.W (rs.length * 256) (growT g l rs) := by
  have := growT_good hH l rs rs.length (Nat.le_refl _)
  rwa [List.take_length] at this
/-- a cell to which a cell grows -/
def rectC (l : Lead) (d c : Cell) : Prop := (d.Y + l.s ≤ c.Y ∧ c.Y ≤ d.Y + l.n) ∧ d.X + l.w ≤ c.X ∧ c.X ≤ d.X + l.e
theorem grow_has {g : Grid} (hH : 1 ≤ g.H ∧ g.H ≤ 256) {l : Lead} (hl : l.w ≤ l.e) {rs : List Run} (hr : ∀ r ∈ rs, r.From < r.To) (c : Cell) : hasB (regR (growT g l rs)) c = true ↔ inG g c ∧ ∃ d, hasB rs d = true ∧ rectC l d c := by
  rw [growT_has hH]
  unfold inGrow inG rectC
  constructor
  · rintro ⟨r, h1, h2, h3, h4, h5, h6⟩
    have h7 := hr r h1
    refine ⟨⟨h3, by omega⟩, ⟨max r.From (c.X - l.e), r.Y⟩, hasB_iff.2 ⟨r, h1, rfl, by simp only; omega, by simp only; omega⟩, by simp only; omega, by simp only; omega⟩
  · rintro ⟨⟨h1, h2⟩, d, h3, h4, h5⟩
    obtain ⟨r, hr, h6, h7, h8⟩ := hasB_iff.1 h3
    exact ⟨r, hr, by omega, h1, by omega, by omega, by omega⟩
theorem lead_wide {S low high : Int} (hS : 1 ≤ S) (h : low ≤ high) : low / S ≤ (S - 1 + high) / S := Int.ediv_le_ediv (by omega) (by omega)
theorem leadOf_wide {g : Grid} {p : Push} (hS : 1 ≤ g.S) (hp : p.ok = true) : (leadOf g p).w ≤ (leadOf g p).e ∧ (leadOf g p).s ≤ (leadOf g p).n := by
  unfold Push.ok at hp
  simp only [Bool.and_eq_true, decide_eq_true_eq] at hp
  exact ⟨lead_wide hS hp.1.1.2, lead_wide hS hp.1.2.2⟩
theorem canon_of_right {W H : Int} {rs : List Run} (h : rightB W H rs = true) : Canon W H rs := (right_iff.1 h).1
def bothR (g : Grid) (a b : List Run) : List Run × Int := if checkedB g [a, b] then regRes (bothT g.W g.H tab0 a b) else ([], 2)
def partB (a b : List Run) : Bool := a.all fun r => (List.range (r.To - r.From).toNat).all fun k => hasB b ⟨r.From + k, r.Y⟩
theorem partB_of {a b : List Run} (h : ∀ c, hasB a c = true → hasB b c = true) : partB a b = true := by
  unfold partB
  rw [List.all_eq_true]
  intro r hr
  rw [List.all_eq_true]
  intro k hk
  rw [List.mem_range] at hk
  exact h _ (hasB_iff.2 ⟨r, hr, rfl, by simp only; omega, by simp only; omega⟩)
def Push.wide (p q : Push) : Push := ⟨⟨min p.Low.X q.Low.X, min p.Low.Y q.Low.Y⟩, ⟨max p.High.X q.High.X, max p.High.Y q.High.Y⟩⟩
def Push.sum (p q : Push) : Push := ⟨⟨w64 (p.Low.X + q.Low.X), w64 (p.Low.Y + q.Low.Y)⟩, ⟨w64 (p.High.X + q.High.X), w64 (p.High.Y + q.High.Y)⟩⟩
end Go.J

namespace Go.J
set_option linter.unusedSimpArgs false
set_option linter.unusedVariables false
/-! plain: discs and half planes -/
theorem Spot.ok_b {s : Spot} (h : s.ok = true) : (-16777216 ≤ s.X ∧ s.X ≤ 16777216) ∧ (-16777216 ≤ s.Y ∧ s.Y ≤ 16777216) := by unfold Spot.ok at h; simpa using h
end Go.J

namespace Go.J
open Go.RowKit Go.Proofs
set_option maxRecDepth 8000
set_option linter.unusedSimpArgs false
set_option linter.unusedVariables false
theorem mul_bd2 {a b A B : Int} (h1 : -A ≤ a) (h2 : a ≤ A) (h3 : -B ≤ b) (h4 : b ≤ B) : -(A * B) ≤ a * b ∧ a * b ≤ A * B := by
  have hB : 0 ≤ B := by omega
  have hA : 0 ≤ A := by omega
  rcases Int.le_total 0 a with h | h
  · have e1 : a * b ≤ a * B := Int.mul_le_mul_of_nonneg_left h4 h
    have e2 : a * B ≤ A * B := Int.mul_le_mul_of_nonneg_right h2 hB
    have e3 : a * -B ≤ a * b := Int.mul_le_mul_of_nonneg_left h3 h
    rw [Int.mul_neg] at e3
    omega
  · have e1 : a * b ≤ a * -B := Int.mul_le_mul_of_nonpos_left h h3
    have e2 : -a * B ≤ A * B := Int.mul_le_mul_of_nonneg_right (by omega) hB
    have e3 : a * B ≤ a * b := Int.mul_le_mul_of_nonpos_left h h4
    rw [Int.mul_neg] at e1
    rw [Int.neg_mul] at e2
    omega
end Go.J

namespace Go.J
open Go.RowKit Go.Proofs
set_option maxRecDepth 8000
set_option linter.unusedSimpArgs false
set_option linter.unusedVariables false
end Go.J

namespace Go.J
open Go.RowKit Go.Proofs
set_option maxRecDepth 8000
set_option linter.unusedSimpArgs false
set_option linter.unusedVariables false
end Go.J

namespace Go.J
set_option linter.unusedSimpArgs false
set_option linter.unusedVariables false
open Go.RowKit
open Go.ChangeMaps (setBlock)
/-! ## maps: as lists of pairs -/
section
variable {K V : Type} [DecidableEq K]
def mget : List (K × V) → K → Option V
  | [], _ => none
  | p :: r, k => if p.1 = k then some p.2 else mget r k
def mset : List (K × V) → K → V → List (K × V)
  | [], k, v => [(k, v)]
  | p :: r, k, v => if p.1 = k then (k, v) :: r else p :: mset r k v
def mdel : List (K × V) → K → List (K × V)
  | [], _ => []
  | p :: r, k => if p.1 = k then r else p :: mdel r k
theorem mget_mset (k : K) (v : V) (k' : K) : ∀ m : List (K × V), mget (mset m k v) k' = if k = k' then some v else mget m k' := by
  intro m
  induction m with
  | nil => simp only [mset, mget]
  | cons p m ih =>
    simp only [mset]
    split
    · rename_i h
      simp only [mget]
      by_cases hk : k = k'
      · simp [hk]
      · rw [if_neg hk, if_neg hk, if_neg (by rw [h]; exact hk)]
    · rename_i h
      simp only [mget, ih]
      by_cases hk : k = k'
      · subst hk; simp [h]
      · simp only [if_neg hk]
theorem mset_keys (k : K) (v : V) : ∀ m : List (K × V), ∀ x, x ∈ (mset m k v).map Prod.fst ↔ x = k ∨ x ∈ m.map Prod.fst := by
  intro m
  induction m with
  | nil => intro x; simp [mset]
  | cons p m ih =>
    intro x
    simp only [mset]
    split
    · rename_i h
      simp only [List.map_cons, List.mem_cons, h]
      constructor
      · rintro (h | h)
        · exact .inl h
        · exact .inr (.inr h)
      · rintro (h | h | h)
        · exact .inl h
        · exact .inl h
        · exact .inr h
    · simp only [List.map_cons, List.mem_cons, ih]
      constructor
      · rintro (h | h | h)
        · exact .inr (.inl h)
        · exact .inl h
        · exact .inr (.inr h)
      · rintro (h | h | h)
        · exact .inr (.inl h)
        · exact .inl h
        · exact .inr (.inr h)
theorem mset_nodup (k : K) (v : V) : ∀ m : List (K × V), (m.map Prod.fst).Nodup → ((mset m k v).map Prod.fst).Nodup := by
  intro m
  induction m with
  | nil => intro _; simp [mset]
  | cons p m ih =>
    intro h
    simp only [List.map_cons, List.nodup_cons] at h
    simp only [mset]
    split
    · rename_i hp
      simp only [List.map_cons, List.nodup_cons]
      exact ⟨hp ▸ h.1, h.2⟩
    · rename_i hp
      simp only [List.map_cons, List.nodup_cons]
      refine ⟨fun hm => ?_, ih h.2⟩
      rcases (mset_keys k v m p.1).1 hm with h' | h'
      · exact hp h'
      · exact h.1 h'
theorem mget_none {k : K} : ∀ {m : List (K × V)}, mget m k = none ↔ k ∉ m.map Prod.fst := by
  intro m
  induction m with
  | nil => simp [mget]
  | cons p m ih =>
    simp only [mget]
    split
    · rename_i h; simp [h]
    · rename_i h; rw [ih]; simp only [List.map_cons, List.mem_cons, not_or]; exact ⟨fun h' => ⟨fun e => h e.symm, h'⟩, fun h' => h'.2⟩
theorem mget_mem {k : K} {v : V} : ∀ {m : List (K × V)}, mget m k = some v → (k, v) ∈ m := by
  intro m
  induction m with
  | nil => intro h; cases h
  | cons p m ih =>
    intro h
    simp only [mget] at h
    split at h
    · rename_i hp; cases h; rw [← hp]; exact List.mem_cons_self
    · exact List.mem_cons_of_mem _ (ih h)
theorem mget_of_mem {k : K} {v : V} : ∀ {m : List (K × V)}, (m.map Prod.fst).Nodup → (k, v) ∈ m → mget m k = some v := by
  intro m
  induction m with
  | nil => intro _ h; cases h
  | cons p m ih =>
    intro hn h
    simp only [List.map_cons, List.nodup_cons] at hn
    simp only [mget]
    cases h with
    | head => simp
    | tail _ h =>
      rw [if_neg (fun hp => hn.1 (by rw [hp]; exact List.mem_map.2 ⟨_, h, rfl⟩))]
      exact ih hn.2 h
theorem mdel_sub (k : K) : ∀ {m : List (K × V)}, (mdel m k).Sublist m := by
  intro m
  induction m with
  | nil => exact List.Sublist.refl _
  | cons p m ih =>
    simp only [mdel]
    split
    · exact List.sublist_cons_self _ _
    · exact ih.cons_cons _
theorem mget_mdel (k k' : K) : ∀ {m : List (K × V)}, (m.map Prod.fst).Nodup → mget (mdel m k) k' = if k = k' then none else mget m k' := by
  intro m
  induction m with
  | nil => intro _; simp [mdel, mget]
  | cons p m ih =>
    intro hn
    simp only [List.map_cons, List.nodup_cons] at hn
    simp only [mdel]
    split
    · rename_i hp
      simp only [mget]
      by_cases hk : k = k'
      · subst hk
        rw [if_pos rfl, mget_none, ← hp]
        exact hn.1
      · rw [if_neg hk, if_neg (by rw [hp]; exact hk)]
    · rename_i hp
      simp only [mget, ih hn.2]
      by_cases hk : k = k'
      · subst hk; simp [hp]
      · simp only [if_neg hk]
end
/-- the keys of a map's type, as they are known -/
structure KeyT (P : Program) (kt : TypeId) {K : Type} (kev : K → Value) : Prop where
  inj : ∀ {a b : K}, kev a = kev b → a = b
  check : ∀ (em : Bool) (k : K) (w : World), (Instr.checkKey em 10000 kt (kev k)).run P w = .ok () w
  find : ∀ (k : K) (w : World) (es : List MapEntry), (∀ e ∈ es, ∃ k' : K, e.key = kev k') →
    ((Instr.findKey kt (kev k) es).run P w = .ok none w ∧ ∀ e ∈ es, e.key ≠ kev k) ∨ ∃ j e, (Instr.findKey kt (kev k) es).run P w = .ok (some (j, e.val)) w ∧ es[j]? = some e ∧ e.key = kev k
  stays : ∀ (k : K) (w : World), (Instr.keyThatStays (kev k) (kev k)).run P w = .ok (kev k) w
theorem KeyT.plain {P : Program} {kt : TypeId} {K : Type} {kev : K → Value} {d : TypeDesc} (hd : P.underlying kt = some d) (hk : ∀ k, MapKept.IsKey d (kev k)) (inj : ∀ {a b : K}, kev a = kev b → a = b) : KeyT P kt kev := by
  refine ⟨inj, fun em k w => MapKept.run_checkKey hd (hk k) em 9999, fun k w es hes => ?_, fun k w => MapKept.run_keyThatStays (hk k)⟩
  rcases MapKept.findNow_spec (hk k) es 0 (fun x hx => by obtain ⟨k', h⟩ := hes x hx; rw [h]; exact hk k') with ⟨h1, h2⟩ | ⟨j, e, h1, h2, h3⟩
  · exact .inl ⟨MapKept.run_findKey hd h1, h2⟩
  · exact .inr ⟨j, e, by simpa using MapKept.run_findKey hd h1, h2, h3⟩
theorem findAsking_run {P : Program} {kt : TypeId} {K : Type} [DecidableEq K] {kev : K → Value} (heq : ∀ (a b : K) (w : World), (Op.equal kt (kev a) (kev b)).run P w = .ok (decide (a = b)) w) (k : K) (w : World) :
    ∀ (es : List MapEntry) (i : Nat), (∀ e ∈ es, ∃ k' : K, e.key = kev k') → ((Instr.findAsking kt (kev k) es i).run P w = .ok none w ∧ ∀ e ∈ es, e.key ≠ kev k ∨ False) ∨
      ∃ j e, (Instr.findAsking kt (kev k) es i).run P w = .ok (some (i + j, e.val)) w ∧ es[j]? = some e ∧ ∃ k', e.key = kev k' ∧ k' = k := by
  intro es
  induction es with
  | nil => intro i _; exact .inl ⟨by simp [Instr.findAsking], fun e he => by cases he⟩
  | cons e es ih =>
    intro i h
    obtain ⟨k', hk'⟩ := h e (by simp)
    simp only [Instr.findAsking]
    rw [Sem.run_bind, hk', heq k k' w]
    simp only [Result.andThen]
    by_cases hkk : k = k'
    · right
      refine ⟨0, e, ?_, rfl, k', hk', hkk.symm⟩
      simp [hkk]
    · rcases ih (i + 1) (fun x hx => h x (List.mem_cons_of_mem _ hx)) with ⟨h1, h2⟩ | ⟨j, x, h1, h2, h3⟩
      · by_cases hkv : kev k' = kev k
        · exfalso
          have e1 := heq k k' w
          rw [hkv, heq k k w] at e1
          simp [hkk] at e1
        · left
          refine ⟨by simpa [hkk] using h1, fun x hx => ?_⟩
          cases hx with
          | head => rw [hk']; exact .inl hkv
          | tail _ hx => exact h2 x hx
      · right
        refine ⟨j + 1, x, ?_, by simpa using h2, h3⟩
        rw [show i + (j + 1) = i + 1 + j by omega]
        simpa [hkk] using h1
theorem KeyT.agg {P : Program} {kt : TypeId} {K : Type} [DecidableEq K] {kev : K → Value} {fs : Array Field} (hd : P.underlying kt = some (.struct fs)) (inj : ∀ {a b : K}, kev a = kev b → a = b)
    (check : ∀ (em : Bool) (k : K) (w : World), (Instr.checkKey em 10000 kt (kev k)).run P w = .ok () w) (heq : ∀ (a b : K) (w : World), (Op.equal kt (kev a) (kev b)).run P w = .ok (decide (a = b)) w)
    (bits : ∀ k, Instr.sameBits 10000 (kev k) (kev k) = true) : KeyT P kt kev := by
  refine ⟨inj, check, fun k w es hes => ?_, fun k w => by simp [Instr.keyThatStays, bits k]⟩
  have hrun : (Instr.findKey kt (kev k) es).run P w = (Instr.findAsking kt (kev k) es).run P w := by
    unfold Instr.findKey
    rw [Sem.run_bind, run_underlying hd]
    simp only [Result.andThen]
    cases es with
    | nil => simp [Instr.findNow, Instr.findAsking]
    | cons e es => simp [Instr.findNow, Instr.sameNow]
  rw [hrun]
  rcases findAsking_run heq k w es 0 hes with ⟨h1, h2⟩ | ⟨j, e, h1, h2, k', h3, rfl⟩
  · exact .inl ⟨h1, fun e he => (h2 e he).resolve_right id⟩
  · exact .inr ⟨j, e, by simpa using h1, h2, h3⟩
/-- a map's block holds the pairs m -/
structure MapIs {K V : Type} (kev : K → Value) (vev : V → Value) (es : Array MapEntry) (clock : Nat) (m : List (K × V)) : Prop where
  enc : es.toList.map (fun e => (e.key, e.val)) = m.map (fun p => (kev p.1, vev p.2))
  nodup : (m.map Prod.fst).Nodup
  born : (es.toList.map (·.born)).Nodup
  old : ∀ e ∈ es.toList, e.born < clock
section
variable {K V : Type} {kev : K → Value} {vev : V → Value} {es : Array MapEntry} {clock : Nat} {m : List (K × V)}
theorem MapIs.empty (clock : Nat) : MapIs kev vev #[] clock [] := ⟨rfl, by simp, by simp, by simp⟩
theorem MapIs.size (h : MapIs kev vev es clock m) : es.size = m.length := by
  have := congrArg List.length h.enc
  simpa using this
theorem MapIs.at (h : MapIs kev vev es clock m) {j : Nat} {e : MapEntry} (he : es.toList[j]? = some e) : ∃ p, m[j]? = some p ∧ e.key = kev p.1 ∧ e.val = vev p.2 := by
  have h1 := congrArg (·[j]?) h.enc
  simp only [List.getElem?_map, he, Option.map_some] at h1
  cases hm : m[j]? with
  | none => rw [hm] at h1; cases h1
  | some p =>
    rw [hm] at h1
    simp only [Option.map_some, Option.some.injEq, Prod.mk.injEq] at h1
    exact ⟨p, rfl, h1.1, h1.2⟩
theorem MapIs.keys (h : MapIs kev vev es clock m) : ∀ e ∈ es.toList, ∃ k' : K, e.key = kev k' := by
  intro e he
  obtain ⟨j, hj⟩ := List.mem_iff_getElem?.1 he
  obtain ⟨p, _, h1, _⟩ := h.at hj
  exact ⟨p.1, h1⟩
variable [DecidableEq K]
theorem mget_at {k : K} : ∀ {m : List (K × V)} {j : Nat} {p : K × V}, (m.map Prod.fst).Nodup → m[j]? = some p → p.1 = k → mget m k = some p.2 := by
  intro m j p hn hj hp
  exact mget_of_mem hn (by rw [← hp]; exact List.mem_of_getElem? hj)
theorem mset_at (k : K) (v : V) : ∀ {m : List (K × V)} {j : Nat} {p : K × V}, (m.map Prod.fst).Nodup → m[j]? = some p → p.1 = k → mset m k v = m.set j (k, v) := by
  intro m
  induction m with
  | nil => intro j p _ h; simp at h
  | cons q m ih =>
    intro j p hn hj hp
    simp only [List.map_cons, List.nodup_cons] at hn
    cases j with
    | zero => simp at hj; subst hj; simp [mset, hp]
    | succ j =>
      simp at hj
      simp only [mset, List.set_cons_succ]
      rw [if_neg (fun h => hn.1 (by rw [h, ← hp]; exact List.mem_map.2 ⟨p, List.mem_of_getElem? hj, rfl⟩)), ih hn.2 hj hp]
theorem mset_new (k : K) (v : V) : ∀ {m : List (K × V)}, k ∉ m.map Prod.fst → mset m k v = m ++ [(k, v)] := by
  intro m
  induction m with
  | nil => intro _; rfl
  | cons q m ih =>
    intro h
    simp only [List.map_cons, List.mem_cons, not_or] at h
    simp only [mset, List.cons_append]
    rw [if_neg (fun e => h.1 e.symm), ih h.2]
theorem mdel_new (k : K) : ∀ {m : List (K × V)}, k ∉ m.map Prod.fst → mdel m k = m := by
  intro m
  induction m with
  | nil => intro _; rfl
  | cons q m ih =>
    intro h
    simp only [List.map_cons, List.mem_cons, not_or] at h
    simp only [mdel]
    rw [if_neg (fun e => h.1 e.symm), ih h.2]
variable {P : Program} {kt : TypeId}
omit [DecidableEq K] in
/-- what a key is found to be -/
theorem MapIs.find (h : MapIs kev vev es clock m) (KT : KeyT P kt kev) (k : K) (w : World) :
    ((Instr.findKey kt (kev k) es.toList).run P w = .ok none w ∧ k ∉ m.map Prod.fst) ∨ ∃ j e p, (Instr.findKey kt (kev k) es.toList).run P w = .ok (some (j, e.val)) w ∧ es.toList[j]? = some e ∧ e.key = kev k ∧ m[j]? = some p ∧ p.1 = k ∧ e.val = vev p.2 := by
  rcases KT.find k w es.toList h.keys with ⟨h1, h2⟩ | ⟨j, e, h1, h2, h3⟩
  · left
    refine ⟨h1, fun hk => ?_⟩
    obtain ⟨p, hp, rfl⟩ := List.mem_map.1 hk
    obtain ⟨j, hj⟩ := List.mem_iff_getElem?.1 hp
    have h4 := congrArg (·[j]?) h.enc
    simp only [List.getElem?_map, hj, Option.map_some] at h4
    cases he : es.toList[j]? with
    | none => rw [he] at h4; cases h4
    | some e =>
      rw [he] at h4
      simp only [Option.map_some, Option.some.injEq, Prod.mk.injEq] at h4
      exact h2 e (List.mem_of_getElem? he) h4.1
  · right
    obtain ⟨p, g1, g2, g3⟩ := h.at h2
    exact ⟨j, e, p, h1, h2, h3, g1, KT.inj (g2.symm.trans h3), g3⟩
end
def tmap {K V : Type} (kev : K → Value) (vev : V → Value) (β : Nat) (m : List (K × V)) : HP := fun h => ∃ es clock, MapIs kev vev es clock m ∧ blk β (.map es clock) h
theorem Own.openM {K V : Type} {kev : K → Value} {vev : V → Value} {w0 w : World} {L : List HP} (H : Own w0 w L) {i β : Nat} {m : List (K × V)} (hi : L[i]? = some (tmap kev vev β m)) :
    ∃ es clock, MapIs kev vev es clock m ∧ Own w0 w (L.set i (blk β (.map es clock))) := by
  obtain ⟨hB, h, hl, hs⟩ := H
  obtain ⟨x, y, d, rfl, ⟨es, clock, hm, hb⟩, c⟩ := starL_focus hi hs
  exact ⟨es, clock, hm, hB, _, hl, starL_unfocus hi ⟨x, y, d, rfl, hb, c⟩⟩
theorem Own.closeM {K V : Type} {kev : K → Value} {vev : V → Value} {w0 w : World} {L : List HP} (H : Own w0 w L) {i β : Nat} {es : Array MapEntry} {clock : Nat} {m : List (K × V)} (hi : L[i]? = some (blk β (.map es clock))) (hm : MapIs kev vev es clock m) :
    Own w0 w (L.set i (tmap kev vev β m)) := H.upd hi fun _ h => ⟨es, clock, hm, h⟩
theorem Own.putMap {w0 w : World} {L : List HP} (H : Own w0 w L) {i β : Nat} {es : Array MapEntry} {clock : Nat} (hi : L[i]? = some (blk β (.map es clock))) (o' : Obj) :
    Own w0 { w with heap := w.heap.setIfInBounds β o' } (L.set i (blk β o')) := by
  have hg := (H.get hi).2
  have hlt := (Array.getElem?_eq_some_iff.1 hg).1
  exact H.put hi o' rfl rfl rfl (by simp) (fun k hk _ => by simp [Array.getElem?_setIfInBounds_ne (Ne.symm hk)]) (by simp [hlt])
section
variable {K V : Type} [DecidableEq K] {kev : K → Value} {vev : V → Value} {P : Program} {kt et t : TypeId}
theorem mapUpdate_own {w0 w : World} {L : List HP} (H : Own w0 w L) {i β : Nat} {m : List (K × V)} (hu : P.underlying t = some (.map kt et)) (KT : KeyT P kt kev) (hi : L[i]? = some (tmap kev vev β m)) (k : K) (v : V) :
    ∃ w', (Instr.mapUpdate t (.map (some β)) (kev k) (vev v)).run P w = .ok () w' ∧ Own w0 w' (L.set i (tmap kev vev β (mset m k v))) := by
  obtain ⟨es, clock, hm, H1⟩ := H.openM hi
  have hil : i < L.length := (List.getElem?_eq_some_iff.1 hi).1
  have hi1 : (L.set i (blk β (.map es clock)))[i]? = some (blk β (.map es clock)) := List.getElem?_set_self hil
  have hb := (H1.get hi1).2
  rcases hm.find KT k w with ⟨h1, h2⟩ | ⟨j, e, p, h1, h2, h3, h4, h5, h6⟩
  · refine ⟨{ w with heap := w.heap.setIfInBounds β (.map (es.push ⟨kev k, vev v, clock⟩) (clock + 1)) }, ?_, ?_⟩
    rotate_left
    · have H2 := H1.putMap hi1 (.map (es.push ⟨kev k, vev v, clock⟩) (clock + 1))
      rw [List.set_set] at H2
      have H3 := H2.closeM (kev := kev) (vev := vev) (m := mset m k v) (List.getElem?_set_self hil) ?_
      · rw [List.set_set] at H3; exact H3
      · rw [mset_new k v h2]
        refine ⟨by simp [hm.enc], ?_, ?_, ?_⟩
        · rw [List.map_append, List.nodup_append]
          refine ⟨hm.nodup, by simp, ?_⟩
          intro a ha b hb' e
          simp at hb'
          subst e hb'
          exact h2 ha
        · rw [Array.toList_push, List.map_append, List.nodup_append]
          refine ⟨hm.born, by simp, ?_⟩
          intro a ha b hb' e
          simp at hb'
          subst e hb'
          obtain ⟨x, hx, rfl⟩ := List.mem_map.1 ha
          exact absurd (hm.old x hx) (Nat.lt_irrefl _)
        · intro x hx
          rw [Array.toList_push, List.mem_append] at hx
          rcases hx with hx | hx
          · exact Nat.lt_succ_of_lt (hm.old x hx)
          · simp at hx; subst hx; exact Nat.lt_succ_self _
    · simp [Instr.mapUpdate, run_underlying hu, MapKept.run_getObj_map hb, KT.check false k w, h1, MapKept.run_setObj_map _ hb, Result.andThen]
  · have hj : es[j]? = some e := by simpa using h2
    have hlist : (es.modify j (fun e' => { e' with key := kev k, val := vev v })).toList = es.toList.set j { e with key := kev k, val := vev v } := by rw [Array.toList_modify, Go.ChangeMaps.modify_eq_set _ _ _ _ h2]
    have hjl : j < es.toList.length := (List.getElem?_eq_some_iff.1 h2).1
    refine ⟨{ w with heap := w.heap.setIfInBounds β (.map (es.modify j (fun e' => { e' with key := kev k, val := vev v })) clock) }, ?_, ?_⟩
    rotate_left
    · have H2 := H1.putMap hi1 (.map (es.modify j (fun e' => { e' with key := kev k, val := vev v })) clock)
      rw [List.set_set] at H2
      have H3 := H2.closeM (kev := kev) (vev := vev) (m := mset m k v) (List.getElem?_set_self hil) ?_
      · rw [List.set_set] at H3; exact H3
      · refine ⟨?_, mset_nodup k v m hm.nodup, ?_, ?_⟩
        · rw [hlist, mset_at k v hm.nodup h4 h5, List.map_set, List.map_set, hm.enc]
        · rw [hlist, List.map_set]
          have : (es.toList.map (·.born)).set j e.born = es.toList.map (·.born) := by
            apply List.ext_getElem?
            intro q
            by_cases hq : q = j
            · subst hq; rw [List.getElem?_set_self (by simpa using hjl), List.getElem?_map, h2]; rfl
            · rw [List.getElem?_set_ne (fun h => hq h.symm)]
          simp only
          rw [this]
          exact hm.born
        · intro x hx
          rw [hlist] at hx
          rcases List.mem_or_eq_of_mem_set hx with hx | rfl
          · exact hm.old x hx
          · exact hm.old e (List.mem_of_getElem? h2)
    · simp [Instr.mapUpdate, run_underlying hu, MapKept.run_getObj_map hb, KT.check false k w, h1, hj, h3, KT.stays k w, MapKept.run_setObj_map _ hb, Result.andThen]
theorem lookup_run {w : World} {β : Nat} {es : Array MapEntry} {clock : Nat} {m : List (K × V)} {z : V} (hu : P.underlying t = some (.map kt et)) (KT : KeyT P kt kev) (hb : w.heap[β]? = some (.map es clock)) (hm : MapIs kev vev es clock m)
    (hz : ∀ w, (zeroValue et).run P w = .ok (vev z) w) (k : K) (ok : Bool) :
    (Instr.lookup t (.map (some β)) (kev k) ok).run P w = .ok (if ok then .tuple #[vev ((mget m k).getD z), .bool (mget m k).isSome] else vev ((mget m k).getD z)) w := by
  rcases hm.find KT k w with ⟨h1, h2⟩ | ⟨j, e, p, h1, h2, h3, h4, h5, h6⟩
  · rw [mget_none.2 h2]
    cases ok <;> simp [Instr.lookup, run_underlying hu, MapKept.run_getObj_map hb, KT.check _ k w, h1, hz, Result.andThen]
  · rw [mget_at hm.nodup h4 h5]
    cases ok <;> simp [Instr.lookup, run_underlying hu, MapKept.run_getObj_map hb, KT.check _ k w, h1, Result.andThen, h6]
end
section
variable {K V : Type} [DecidableEq K] {kev : K → Value} {vev : V → Value} {kt et t : TypeId}
variable {P : Program} {N : Sz} {ops : Array Oper} {Q : Exit → Act → World → Prop} {rest : List Oper} {fr : Fr} {w w0 : World} {L L' : List HP}
  {d : Option Tmp} {ty : TypeId} {pos : String} {af : Array Edge}
omit [DecidableEq K] in
theorem JL.makeMap (kev : K → Value) (vev : V → Value) (H : Own w0 w L) (hd : Fr.fits N d = true) (k : ∀ β w', Own w0 w' (tmap kev vev β [] :: L) → JL P N ops Q rest (fr.put d (.map (some β))) w') :
    JL P N ops Q (⟨d, .makeMap t none, ty, pos, af, none⟩ :: rest) fr w :=
  JL.val rfl hd (fun a Ha => by
    simp only [execOp, Option.map_none]
    simp [Instr.makeMap, newObj, Sem.run]) (k w.heap.size (w.alloc (.map #[] 0)) ((H.new (.map #[] 0)).closeM (i := 0) rfl (MapIs.empty 0)))
theorem JL.mapUpdate {mo x y : Operand} {β : Nat} {m : List (K × V)} (i : Nat) (H : Own w0 w L) (k : K) (v : V) (hm : fr.ev mo = some (.map (some β))) (hx : fr.ev x = some (kev k)) (hy : fr.ev y = some (vev v)) (hu : P.underlying t = some (.map kt et)) (KT : KeyT P kt kev)
    (hi : L[i]? = some (tmap kev vev β m)) (hL : setLK (tmap kev vev β (mset m k v)) i L some = some L') (kk : ∀ w', Own w0 w' L' → JL P N ops Q rest fr w') : JL P N ops Q (⟨none, .mapUpdate t mo x y, ty, pos, af, none⟩ :: rest) fr w := by
  obtain ⟨w', h1, h2⟩ := mapUpdate_own H hu KT hi k v
  have hL' := setLK_eq hL
  simp at hL'
  subst hL'
  refine JL.unit rfl rfl (fun a Ha => ?_) (kk w' h2)
  simp only [execOp, Ha.eval hm, Ha.eval hx, Ha.eval hy]
  simp [h1]
/-- m[k], of a map whose block is known -/
theorem JL.lookupB {mo x : Operand} {β : Nat} {es : Array MapEntry} {clock : Nat} {m : List (K × V)} {ok : Bool} (k : K) (z : V) (hb : w.heap[β]? = some (.map es clock)) (hM : MapIs kev vev es clock m) (hm : fr.ev mo = some (.map (some β))) (hx : fr.ev x = some (kev k))
    (hu : P.underlying t = some (.map kt et)) (KT : KeyT P kt kev) (hz : ∀ w, (zeroValue et).run P w = .ok (vev z) w) (hd : Fr.fits N d = true)
    (kk : JL P N ops Q rest (fr.put d (if ok then .tuple #[vev ((mget m k).getD z), .bool (mget m k).isSome] else vev ((mget m k).getD z))) w) : JL P N ops Q (⟨d, .lookup t mo x ok, ty, pos, af, none⟩ :: rest) fr w :=
  JL.val rfl hd (fun a Ha => by
    simp only [execOp, Ha.eval hm, Ha.eval hx]
    simp [lookup_run hu KT hb hM hz k ok]) kk
theorem JL.lookupM {mo x : Operand} {β : Nat} {m : List (K × V)} {ok : Bool} (i : Nat) (H : Own w0 w L) (k : K) (z : V) (hm : fr.ev mo = some (.map (some β))) (hx : fr.ev x = some (kev k)) (hi : L[i]? = some (tmap kev vev β m))
    (hu : P.underlying t = some (.map kt et)) (KT : KeyT P kt kev) (hz : ∀ w, (zeroValue et).run P w = .ok (vev z) w) (hd : Fr.fits N d = true)
    (kk : JL P N ops Q rest (fr.put d (if ok then .tuple #[vev ((mget m k).getD z), .bool (mget m k).isSome] else vev ((mget m k).getD z))) w) : JL P N ops Q (⟨d, .lookup t mo x ok, ty, pos, af, none⟩ :: rest) fr w := by
  obtain ⟨es, clock, hM, H1⟩ := H.openM hi
  have hb := (H1.get (List.getElem?_set_self (List.getElem?_eq_some_iff.1 hi).1)).2
  exact JL.lookupB k z hb hM hm hx hu KT hz hd kk
/-! ### ranging over a map: the entries that are left -/
theorem JL.rangeM {mo : Operand} {β : Nat} {es : Array MapEntry} {clock : Nat} (i : Nat) (H : Own w0 w L) (hm : fr.ev mo = some (.map (some β))) (hi : L[i]? = some (blk β (.map es clock))) (hu : P.underlying t = some (.map kt et)) (hd : Fr.fits N d = true)
    (kk : ∀ r w', Own w0 w' (blk r (.mapIter (some β) clock #[] clock) :: L) → JL P N ops Q rest (fr.put d (.pointer (some ⟨r, 0, none⟩))) w') : JL P N ops Q (⟨d, .range t mo, ty, pos, af, none⟩ :: rest) fr w := by
  have hb := (H.get hi).2
  refine JL.val rfl hd (fun a Ha => ?_) (kk w.heap.size (w.alloc (.mapIter (some β) clock #[] clock)) (H.new _))
  simp only [execOp, Ha.eval hm]
  simp [run_range_map w t kt et β es clock hu hb]
theorem JL.nextM {it : Operand} {β r since c0 : Nat} {seen : Array Nat} {es : Array MapEntry} {clock : Nat} (i j : Nat) (H : Own w0 w L) (hit : fr.ev it = some (.pointer (some ⟨r, 0, none⟩))) (hi : L[i]? = some (blk r (.mapIter (some β) since seen c0)))
    (hj : L[j]? = some (blk β (.map es clock))) (hold : ∀ x ∈ es.toList, x.born < since) (hsc : since ≤ c0) (hd : Fr.fits N d = true)
    (kend : (leftOf es seen).size = 0 → JL P N ops Q rest (fr.put d (.tuple #[.bool false])) w)
    (kstep : ∀ e w', e ∈ (leftOf es seen).toList → Own w0 w' (L.set i (blk r (.mapIter (some β) since (seen.push e.born) clock))) → JL P N ops Q rest (fr.put d (.tuple #[.bool true, e.key, e.val])) w') :
    JL P N ops Q (⟨d, .next it false, ty, pos, af, none⟩ :: rest) fr w := by
  have hr := (H.get hi).2
  have hb := (H.get hj).2
  rcases run_next_at (P := P) w ty r β since c0 seen es clock hr hb hold hsc with ⟨h0, hrun⟩ | ⟨e, he, w1, hw1, hrun⟩
  · exact JL.val rfl hd (fun a Ha => by simp only [execOp, Ha.eval hit]; simp [hrun]) (kend h0)
  · have H1 : Own w0 w1 L := by
      rcases hw1 with rfl | rfl
      · exact H
      · exact H.drew
    have hr1 := (H1.get hi).2
    have hlt := (Array.getElem?_eq_some_iff.1 hr1).1
    have H2 : Own w0 (setBlock w1 r (.mapIter (some β) since (seen.push e.born) clock)) (L.set i (blk r (.mapIter (some β) since (seen.push e.born) clock))) :=
      H1.put hi _ rfl rfl rfl (by simp [setBlock]) (fun k hk _ => by simp [setBlock, Array.getElem?_setIfInBounds_ne (Ne.symm hk)]) (by simp [setBlock, hlt])
    exact JL.val rfl hd (fun a Ha => by simp only [execOp, Ha.eval hit]; simp [hrun]) (kstep e _ he H2)
theorem JL.entryM {it : Operand} {β r since : Nat} {seen : Array Nat} {es : Array MapEntry} {clock : Nat} {e : MapEntry} (i j : Nat) (H : Own w0 w L) (hit : fr.ev it = some (.pointer (some ⟨r, 0, none⟩))) (hi : L[i]? = some (blk r (.mapIter (some β) since (seen.push e.born) clock)))
    (hj : L[j]? = some (blk β (.map es clock))) (he : e ∈ es.toList) (hn : (es.toList.map (·.born)).Nodup) (hd : Fr.fits N d = true) (kk : JL P N ops Q rest (fr.put d (.tuple #[e.key, e.val])) w) : JL P N ops Q (⟨d, .entry it, ty, pos, af, none⟩ :: rest) fr w :=
  JL.val rfl hd (fun a Ha => by
    simp only [execOp, Ha.eval hit]
    simp [run_entry_at w r β since seen es clock e (H.get hi).2 (H.get hj).2 he hn]) kk
end
/-- the pairs that an iterator has not handed out -/
def ItIs {K V : Type} (kev : K → Value) (vev : V → Value) (es : Array MapEntry) (seen : Array Nat) (l : List (K × V)) : Prop := (leftOf es seen).toList.map (fun e => (e.key, e.val)) = l.map (fun p => (kev p.1, vev p.2))
section
variable {K V : Type} {kev : K → Value} {vev : V → Value} {es : Array MapEntry} {clock : Nat} {m l : List (K × V)} {seen : Array Nat}
theorem ItIs.start (h : MapIs kev vev es clock m) : ItIs kev vev es #[] m := by
  unfold ItIs leftOf
  rw [show es.filter (fun e => !(#[] : Array Nat).contains e.born) = es by simp]
  exact h.enc
theorem ItIs.ended (h : ItIs kev vev es seen l) (h0 : (leftOf es seen).size = 0) : l = [] := by
  have := congrArg List.length h
  simp only [List.length_map, Array.length_toList, h0] at this
  exact List.eq_nil_of_length_eq_zero this.symm
theorem ItIs.step (hM : MapIs kev vev es clock m) (h : ItIs kev vev es seen l) {e : MapEntry} (he : e ∈ (leftOf es seen).toList) :
    e ∈ es.toList ∧ ∃ a p b, l = a ++ p :: b ∧ e.key = kev p.1 ∧ e.val = vev p.2 ∧ ItIs kev vev es (seen.push e.born) (a ++ b) := by
  have hes : e ∈ es.toList := by
    unfold leftOf at he
    rw [Array.toList_filter] at he
    exact (List.mem_filter.1 he).1
  refine ⟨hes, ?_⟩
  obtain ⟨s, t, hst⟩ := List.append_of_mem he
  have h' := h
  unfold ItIs at h'
  rw [hst, List.map_append, List.map_cons] at h'
  obtain ⟨a, q, rfl, ha, hq⟩ := List.map_eq_append_iff.1 h'.symm
  obtain ⟨p, b, rfl, hp, hb⟩ := List.map_eq_cons_iff.1 hq
  simp only [Prod.mk.injEq] at hp
  refine ⟨a, p, b, rfl, hp.1.symm, hp.2.symm, ?_⟩
  unfold ItIs
  have hborn : ((leftOf es seen).toList.map (·.born)).Nodup := by
    unfold leftOf
    rw [Array.toList_filter]
    exact hM.born.sublist (List.filter_sublist.map _)
  have hpush : (leftOf es (seen.push e.born)).toList = (leftOf es seen).toList.filter (fun x => x.born != e.born) := by
    unfold leftOf
    rw [Array.toList_filter, Array.toList_filter, List.filter_filter]
    congr 1
    funext x
    simp only [Array.contains_push]
    by_cases hx : x.born = e.born
    · simp [hx]
    · have h1 : (x.born == e.born) = false := by simpa using hx
      simp [bne, h1]
  rw [hpush, hst]
  rw [hst, List.map_append, List.map_cons, List.nodup_append] at hborn
  obtain ⟨_, h2, h3⟩ := hborn
  rw [List.nodup_cons] at h2
  have f1 : s.filter (fun x => x.born != e.born) = s := List.filter_eq_self.2 fun x hx => by
    have := h3 x.born (List.mem_map.2 ⟨x, hx, rfl⟩) e.born (by simp)
    simpa using this
  have f2 : t.filter (fun x => x.born != e.born) = t := List.filter_eq_self.2 fun x hx => by
    have : x.born ≠ e.born := fun he => h2.1 (by rw [← he]; exact List.mem_map.2 ⟨x, hx, rfl⟩)
    simpa using this
  rw [List.filter_append, List.filter_cons, f1, f2]
  simp [ha, hb]
end
end Go.J

namespace Go.J
set_option linter.unusedSimpArgs false
set_option linter.unusedVariables false
/-! plain: the runs of a set, cell by cell -/
def rstep (s : Cell → Bool) (y : Int) (out : List Run) (x : Int) : List Run :=
  if s ⟨x, y⟩ then
    (match out.getLast? with
    | some l => if l.Y = y ∧ l.To = x then out.dropLast ++ [⟨l.Y, l.From, x + 1⟩] else out ++ [⟨y, x, x + 1⟩]
    | none => out ++ [⟨y, x, x + 1⟩])
  else out
def runRow1 (s : Cell → Bool) (y : Int) (out : List Run) (n : Nat) : List Run := (List.range n).foldl (fun o (k : Nat) => rstep s y o k) out
def runAll (s : Cell → Bool) (W : Nat) (n : Nat) : List Run := (List.range n).foldl (fun o (y : Nat) => runRow1 s y o W) []
theorem runRow1_succ (s : Cell → Bool) (y : Int) (out : List Run) (n : Nat) : runRow1 s y out (n + 1) = rstep s y (runRow1 s y out n) n := by
  unfold runRow1; rw [List.range_succ, List.foldl_append]; rfl
theorem runAll_succ (s : Cell → Bool) (W n : Nat) : runAll s W (n + 1) = runRow1 s n (runAll s W n) W := by
  unfold runAll; rw [List.range_succ, List.foldl_append]; rfl
/-- what stands when the cells ahead of (x, y) are done -/
structure RunsTo (s : Cell → Bool) (W H : Int) (x y : Int) (out : List Run) : Prop where
  canon : Canon W H out
  last : ∀ r ∈ out, r.Y < y ∨ r.Y = y ∧ r.To ≤ x
  has : ∀ c : Cell, hasB out c = true ↔ (0 ≤ c.X ∧ c.X < W) ∧ 0 ≤ c.Y ∧ (c.Y < y ∨ c.Y = y ∧ c.X < x) ∧ s c = true
theorem hasB_append {a b : List Run} {c : Cell} : hasB (a ++ b) c = true ↔ hasB a c = true ∨ hasB b c = true := by
  unfold hasB; rw [List.any_append, Bool.or_eq_true]
theorem hasB_one {r : Run} {c : Cell} : hasB [r] c = true ↔ r.Y = c.Y ∧ r.From ≤ c.X ∧ c.X < r.To := by
  rw [hasB_iff]; simp
theorem RunsTo.step {s : Cell → Bool} {W H : Int} {x y : Int} {out : List Run} (h : RunsTo s W H x y out) (hx : 0 ≤ x ∧ x < W) (hy : 0 ≤ y ∧ y < H) : RunsTo s W H (x + 1) y (rstep s y out x) := by
  unfold rstep
  cases hs : s ⟨x, y⟩ with
  | false =>
    simp only [Bool.false_eq_true, if_false]
    refine ⟨h.canon, fun r hr => by have := h.last r hr; omega, fun c => ?_⟩
    rw [h.has c]
    constructor
    · rintro ⟨h1, h2, h3, h4⟩; exact ⟨h1, h2, by omega, h4⟩
    · rintro ⟨h1, h2, h3, h4⟩
      refine ⟨h1, h2, ?_, h4⟩
      by_cases hc : c.Y = y ∧ c.X = x
      · exfalso
        have : c = ⟨x, y⟩ := by cases c; simp_all
        rw [this, hs] at h4; cases h4
      · omega
  | true =>
    simp only [if_true]
    have hnew : ∀ c : Cell, ((0 ≤ c.X ∧ c.X < W) ∧ 0 ≤ c.Y ∧ (c.Y < y ∨ c.Y = y ∧ c.X < x + 1) ∧ s c = true) ↔ ((0 ≤ c.X ∧ c.X < W) ∧ 0 ≤ c.Y ∧ (c.Y < y ∨ c.Y = y ∧ c.X < x) ∧ s c = true) ∨ (c.Y = y ∧ c.X = x) := by
      intro c
      constructor
      · rintro ⟨h1, h2, h3, h4⟩
        by_cases hc : c.Y = y ∧ c.X = x
        · exact .inr hc
        · exact .inl ⟨h1, h2, by omega, h4⟩
      · rintro (⟨h1, h2, h3, h4⟩ | ⟨h1, h2⟩)
        · exact ⟨h1, h2, by omega, h4⟩
        · have : c = ⟨x, y⟩ := by cases c; simp_all
          exact ⟨by omega, by omega, by omega, by rw [this]; exact hs⟩
    have happ : (∀ r ∈ out, r.Y < y ∨ r.Y = y ∧ r.To < x) → RunsTo s W H (x + 1) y (out ++ [⟨y, x, x + 1⟩]) := by
      intro hl
      refine ⟨⟨fun r hr => ?_, ?_⟩, fun r hr => ?_, fun c => ?_⟩
      · rcases List.mem_append.1 hr with hr | hr
        · exact h.canon.rng r hr
        · simp at hr; subst hr; simp only; omega
      · rw [List.pairwise_append]
        refine ⟨h.canon.ord, by simp, fun r hr t ht => ?_⟩
        simp at ht; subst ht
        exact hl r hr
      · rcases List.mem_append.1 hr with hr | hr
        · have := h.last r hr; omega
        · simp at hr; subst hr; exact .inr ⟨rfl, Int.le_refl _⟩
      · rw [hasB_append, h.has c, hasB_one, hnew c]
        refine or_congr_right ?_
        simp only
        omega
    rcases List.eq_nil_or_concat out with rfl | ⟨init, l, rfl⟩
    · exact happ (by simp)
    · simp only [List.concat_eq_append, List.getLast?_append, List.getLast?_singleton, Option.some_or, List.dropLast_concat] at *
      split
      · rename_i hj
        have hl := h.canon.rng l (by simp)
        have hord := h.canon.ord
        rw [List.pairwise_append] at hord
        refine ⟨⟨fun r hr => ?_, ?_⟩, fun r hr => ?_, fun c => ?_⟩
        · rcases List.mem_append.1 hr with hr | hr
          · exact h.canon.rng r (List.mem_append_left _ hr)
          · simp at hr; subst hr; simp only; omega
        · rw [List.pairwise_append]
          refine ⟨hord.1, by simp, fun r hr t ht => ?_⟩
          simp at ht; subst ht
          exact hord.2.2 r hr l (by simp)
        · rcases List.mem_append.1 hr with hr | hr
          · have := h.last r (List.mem_append_left _ hr); omega
          · simp at hr; subst hr; exact .inr ⟨hj.1, Int.le_refl _⟩
        · have hc := h.has c
          rw [hasB_append, hasB_one] at hc
          rw [hasB_append, hasB_one, hnew c, ← hc]
          simp only
          constructor
          · rintro (h | h)
            · exact .inl (.inl h)
            · rcases (show (l.Y = c.Y ∧ l.From ≤ c.X ∧ c.X < l.To) ∨ (c.Y = y ∧ c.X = x) by omega) with h | h
              · exact .inl (.inr h)
              · exact .inr h
          · rintro ((h | h) | h)
            · exact .inl h
            · exact .inr (by omega)
            · exact .inr (by omega)
      · rename_i hj
        refine happ fun r hr => ?_
        have h1 := h.last r hr
        rcases List.mem_append.1 hr with hr | hr
        · have h2 := h.canon.ord
          rw [List.pairwise_append] at h2
          have h3 := h2.2.2 r hr l (by simp)
          have h4 := h.last l (by simp)
          have h5 := h.canon.rng l (by simp)
          omega
        · simp at hr
          subst hr
          omega
theorem runAll_to {s : Cell → Bool} {W H : Int} (hW : 0 ≤ W) : ∀ n : Nat, (n : Int) ≤ H → RunsTo s W H 0 n (runAll s W.toNat n) := by
  intro n
  induction n with
  | zero =>
    intro _
    refine ⟨⟨by simp [runAll], by simp [runAll]⟩, by simp [runAll], fun c => ?_⟩
    constructor
    · intro h; simp [runAll, hasB] at h
    · rintro ⟨h1, h2, h3, _⟩; exfalso; simp at h3; omega
  | succ n ih =>
    intro hn
    rw [runAll_succ]
    have h0 := ih (by omega)
    have key : ∀ k : Nat, (k : Int) ≤ W → RunsTo s W H k n (runRow1 s n (runAll s W.toNat n) k) := by
      intro k
      induction k with
      | zero => intro _; exact h0
      | succ k ihk =>
        intro hk
        rw [runRow1_succ]
        have := (ihk (by omega)).step (by omega) (by omega)
        push_cast
        exact this
    have hW' := key W.toNat (by omega)
    refine ⟨hW'.canon, fun r hr => ?_, fun c => ?_⟩
    · have := hW'.last r hr; push_cast; omega
    · rw [hW'.has c]
      push_cast
      constructor
      · rintro ⟨h1, h2, h3, h4⟩; exact ⟨h1, h2, by omega, h4⟩
      · rintro ⟨h1, h2, h3, h4⟩; exact ⟨h1, h2, by omega, h4⟩
def runsR (g : Grid) (s : Cell → Bool) : List Run × Int := if (runAll s g.W.toNat g.H.toNat).length > 8192 then ([], 3) else (runAll s g.W.toNat g.H.toNat, 0)
theorem runAll_ok {g : Grid} (hW : 0 ≤ g.W) (hH : 0 ≤ g.H) (s : Cell → Bool) : Canon g.W g.H (runAll s g.W.toNat g.H.toNat) ∧ ∀ c, hasB (runAll s g.W.toNat g.H.toNat) c = true ↔ inG g c ∧ s c = true := by
  have h := runAll_to (s := s) (H := g.H) hW g.H.toNat (by omega)
  refine ⟨h.canon, fun c => ?_⟩
  rw [h.has c]
  unfold inG
  constructor
  · rintro ⟨h1, h2, h3, h4⟩; exact ⟨⟨h1, h2, by omega⟩, h4⟩
  · rintro ⟨⟨h1, h2, h3⟩, h4⟩; exact ⟨h1, h2, by omega, h4⟩
theorem regRes_runs {g : Grid} (hW : 0 ≤ g.W) (hH : 0 ≤ g.H) {T : Tab} {k : Nat} (hg : Tab.good g.W k T) (hl : Tab.low g.H T) (s : Cell → Bool) (h : ∀ c, hasB (regR T) c = true ↔ inG g c ∧ s c = true) : regRes T = runsR g s := by
  obtain ⟨h1, h2⟩ := runAll_ok hW hH s
  have : regR T = runAll s g.W.toNat g.H.toNat := canon_unique hW (regR_canon hg hl) h1 fun c => (h c).trans (h2 c).symm
  unfold regRes runsR
  rw [← this]
  split <;> split <;> first | rfl | omega
theorem runsR_congr {g : Grid} (hW : 0 ≤ g.W) (hH : 0 ≤ g.H) {s t : Cell → Bool} (h : ∀ c, inG g c → (s c = true ↔ t c = true)) : runsR g s = runsR g t := by
  obtain ⟨h1, h2⟩ := runAll_ok hW hH s
  obtain ⟨h3, h4⟩ := runAll_ok hW hH t
  have : runAll s g.W.toNat g.H.toNat = runAll t g.W.toNat g.H.toNat := canon_unique hW h1 h3 fun c => by
    rw [h2 c, h4 c]
    exact and_congr_right fun hc => h c hc
  unfold runsR
  rw [this]
end Go.J

namespace Go.J
open Go.RowKit Go.Proofs
set_option maxRecDepth 8000
set_option linter.unusedSimpArgs false
set_option linter.unusedVariables false
theorem equal_two {t : TypeId} (ht : t = 62 ∨ t = 23) (a b x y : Int) (w : World) : (Op.equal t (.agg ⟨[.int .i64 a, .int .i64 b]⟩) (.agg ⟨[.int .i64 x, .int .i64 y]⟩)).run Try.prog w = .ok (decide (a = x ∧ b = y)) w := by
  have u3 := Try.underlying3
  have a3 := Try.isAgg3
  have z3 := Try.sizeOf3
  rcases ht with rfl | rfl
  · unfold Op.equal Op.maxDepth
    rw [show (10000 : Nat) = 9999 + 1 from rfl, run_equalIn_agg w 9999 62 _ _ (by kernel_rfl) (by kernel_rfl)]
    simp only [Program.fieldsOf, Try.underlying62]
    go_simp
    by_cases h1 : a = x <;> by_cases h2 : b = y <;> simp [h1, h2]
  · unfold Op.equal Op.maxDepth
    rw [show (10000 : Nat) = 9999 + 1 from rfl, run_equalIn_agg w 9999 23 _ _ (by kernel_rfl) (by kernel_rfl)]
    simp only [Program.fieldsOf, Try.underlying23]
    go_simp
    by_cases h1 : a = x <;> by_cases h2 : b = y <;> simp [h1, h2]
theorem check_two {t : TypeId} (ht : t = 62 ∨ t = 23) (em : Bool) (a b : Int) (w : World) : (Instr.checkKey em 10000 t (.agg ⟨[.int .i64 a, .int .i64 b]⟩)).run Try.prog w = .ok () w := by
  have u3 := Try.underlying3
  have a3 := Try.isAgg3
  have z3 := Try.sizeOf3
  rcases ht with rfl | rfl
  · rw [show (10000 : Nat) = 9998 + 1 + 1 from rfl]
    unfold Instr.checkKey
    rw [Sem.run_bind, run_underlying Try.underlying62]
    simp only [Result.andThen]
    go_simp
    unfold Instr.checkKey
    go_simp
  · rw [show (10000 : Nat) = 9998 + 1 + 1 from rfl]
    unfold Instr.checkKey
    rw [Sem.run_bind, run_underlying Try.underlying23]
    simp only [Result.andThen]
    go_simp
    unfold Instr.checkKey
    go_simp
theorem bits_two (a b : Int) : Instr.sameBits 10000 (.agg ⟨[.int .i64 a, .int .i64 b]⟩) (.agg ⟨[.int .i64 a, .int .i64 b]⟩) = true := by
  rw [show (10000 : Nat) = 9998 + 1 + 1 from rfl]
  simp [Instr.sameBits]
theorem keyCell : KeyT Try.prog 62 Cell.ev := KeyT.agg Try.underlying62 (fun {a b} h => by cases a; cases b; simpa [Cell.ev] using h) (fun em k w => check_two (.inl rfl) em k.X k.Y w)
  (fun a b w => by
    have := equal_two (.inl rfl) a.X a.Y b.X b.Y w
    rw [show (decide (a = b)) = decide (a.X = b.X ∧ a.Y = b.Y) by cases a; cases b; simp]
    exact this) (fun k => bits_two k.X k.Y)
/-- a set of cells, as a map -/
def MSet (m : List (Cell × Bool)) (P : Cell → Prop) : Prop := ∀ c, (mget m c).getD false = true ↔ P c
theorem MSet.nil : MSet [] (fun _ => False) := fun c => by simp [mget]
theorem MSet.set {m : List (Cell × Bool)} {P : Cell → Prop} (h : MSet m P) (k : Cell) : MSet (mset m k true) (fun c => P c ∨ c = k) := fun c => by
  rw [mget_mset]
  by_cases hk : k = c
  · subst hk; simp
  · rw [if_neg hk, h c]
    constructor
    · exact .inl
    · rintro (h | h)
      · exact h
      · exact absurd h.symm hk
theorem MSet.put {m : List (Cell × Bool)} {P : Cell → Prop} (h : MSet m P) (k : Cell) (b : Bool) : MSet (mset m k b) (fun c => (c = k ∧ b = true) ∨ (c ≠ k ∧ P c)) := fun c => by
  rw [mget_mset]
  by_cases hk : k = c
  · subst hk; simp
  · rw [if_neg hk, h c]
    constructor
    · intro h; exact .inr ⟨fun e => hk e.symm, h⟩
    · rintro (h | h)
      · exact absurd h.1.symm hk
      · exact h.2
theorem MSet.congr {m : List (Cell × Bool)} {P P' : Cell → Prop} (h : MSet m P) (e : ∀ c, P c ↔ P' c) : MSet m P' := fun c => (h c).trans (e c)
def setM (β : Nat) (m : List (Cell × Bool)) : HP := tmap Cell.ev Value.bool β m
/-- runs whose numbers are no odd ones -/
def Tame (rs : List Run) : Prop := ∀ r ∈ rs, (-1000000000000 ≤ r.From ∧ r.From ≤ 1000000000000) ∧ -1000000000000 ≤ r.To ∧ r.To ≤ 1000000000000
theorem zero4 : ∀ w, (zeroValue 4).run Try.prog w = .ok (Value.bool false) w := fun w => by
  obtain ⟨z, h1, h2⟩ := tyZero_run (P := Try.prog) (t := 4) (l := [.bool false]) (by kernel_rfl) w
  have : z = .bool false := by
    cases z <;> simp_all [Value.cells]
  rw [h1, this]
end Go.J

namespace Go.J
open Go.RowKit Go.Proofs
set_option maxRecDepth 8000
set_option linter.unusedSimpArgs false
set_option linter.unusedVariables false
theorem bothR_len (g : Grid) (a b : List Run) : (bothR g a b).1.length ≤ 8192 := by
  unfold bothR; split
  · exact regRes_len _
  · simp
theorem both2_c (g : Grid) (lv av bv : Value) (a b : List Run) (w : World) (hl : SlR w lv g.land) (ha : SlR w av a) (hb : SlR w bv b) (hca : capOK av) (hcb : capOK bv) :
    Calls Try.prog 42 #[g.ev lv, av, bv] w (fun e w' => ResR w w' [] (bothR g a b) e) := by
  obtain ⟨aa, ac, rfl⟩ := ha.len
  obtain ⟨ba, bc, rfl⟩ := hb.len
  refine calls_J (args := [g.ev lv, .slice aa a.length ac, .slice ba b.length bc]) Try.func42 rfl Try.ntmps42 rfl ?_
  have H := Own.start w
  ((repeat refine JC.seq ?_); refine JC.region ?_)
  refine JL.box H rfl rfl rfl ?_
  intro b3 w1 H
  refine JL.pure rfl rfl ?_
  refine JL.pure rfl rfl ?_
  refine JL.nil ?_
  ((repeat refine Ex.normal_block ?_); refine Ex.next ?_)
  ((repeat refine JC.seq ?_); refine JC.region ?_)
  refine JL.loadB 0 H rfl sh52 rfl rfl rfl ?_
  refine JL.pure rfl rfl ?_
  refine JL.pure rfl rfl ?_
  refine JL.buildSlice H Try.underlying134 sh50 z50 rfl rfl rfl rfl rfl ?_
  intro b13 w2 H
  refine JL.callP H fb129 rfl rfl (checked_c g lv _ [(.slice aa a.length ac, a), (.slice ba b.length bc, b)] _ (hl.grow H.below) (H.blkSl1 (j := 0) (ev := Prod.fst) rfl [(.slice aa a.length ac, a), (.slice ba b.length bc, b)] rfl (by simp)) (by
    have hB := H.below
    intro p hp
    simp only [List.mem_cons, List.not_mem_nil, or_false] at hp
    rcases hp with rfl | rfl
    · exact ha.grow hB
    · exact hb.grow hB)) ?_
  intro w3 H _
  refine JL.pure rfl rfl ?_
  refine JL.nil ?_
  ((repeat refine Ex.normal_block ?_); refine Ex.next ?_)
  ((repeat refine JC.seq ?_); refine JC.region ?_)
  refine JL.pure rfl rfl ?_
  refine JL.pure rfl rfl ?_
  refine JL.nil ?_
  ((repeat refine Ex.normal_block ?_); refine Ex.next ?_)
  ((repeat refine JC.seq ?_); refine JC.cond rfl ?_ ?_)
  · intro h16
    (try simp only [Bool.not_eq_true', Bool.not_eq_false', decide_eq_true_eq, decide_eq_false_iff_not] at h16)
    have hok : checkedB g [a, b] = false := by
      cases hc : checkedB g [a, b] with
      | false => rfl
      | true => exfalso; simp [hc] at h16
    ((repeat refine JC.seq ?_); refine JC.region ?_)
    refine JL.pure rfl rfl ?_
    refine JL.pure rfl rfl ?_
    refine JL.pure rfl rfl ?_
    refine JL.nil ?_
    ((repeat refine Ex.normal_block ?_); refine Ex.next ?_)
    ((repeat refine JC.seq ?_); refine JC.ret ?_)
    (repeat (first | refine Ex.ret_then ?_ | refine Ex.ret_block ?_))
    refine Ex.ret2 rfl (.tmp rfl) (.tmp rfl) ?_
    unfold bothR ResR; rw [hok]
    exact ⟨.slice none 0 0, by simp [hok], (((H.drop 0).drop 0).nilRow 140 3)⟩
  · intro h16
    (try simp only [Bool.not_eq_true', Bool.not_eq_false', decide_eq_true_eq, decide_eq_false_iff_not] at h16)
    have hok : checkedB g [a, b] = true := by
      cases hc : checkedB g [a, b] with
      | true => rfl
      | false => exfalso; simp [hc] at h16
    obtain ⟨hgok, hall⟩ := checkedB_b hok
    obtain ⟨hgW, hgH, hgS, hgl⟩ := Grid.ok_b hgok
    have hal := rightB_len (hall a (by simp))
    have hbl := rightB_len (hall b (by simp))
    ((repeat refine JC.seq ?_); refine JC.skip ?_)
    ((repeat refine Ex.normal_block ?_); refine Ex.next ?_)
    ((repeat refine JC.seq ?_); refine JC.region ?_)
    refine JL.buildA Try.underlying195 sh193 za195 rfl rfl ?_
    refine JL.box H rfl rfl rfl ?_
    intro b19 w4 H
    have H := H.newT
    refine JL.pure rfl rfl ?_
    refine JL.nil ?_
    ((repeat refine Ex.normal_block ?_); refine Ex.next ?_)
    ((repeat refine JC.seq ?_); refine JC.region ?_)
    refine JL.pure rfl rfl ?_
    refine JL.loadB 2 H rfl sh52 rfl rfl rfl ?_
    refine JL.pure rfl rfl ?_
    refine JL.pure rfl rfl ?_
    refine JL.call fb130 rfl rfl (both_c (k := 0) H g lv _ _ a b hgW hgH (fun w' T' h => ha.grow h.below) (fun w' T' h => hb.grow h.below) hca hcb (tab0_good _) (by omega)) ?_
    rintro _ w5 ⟨rfl, H⟩
    refine ⟨_, rfl, ?_⟩
    refine JL.nil ?_
    ((repeat refine Ex.normal_block ?_); refine Ex.next ?_)
    ((repeat refine JC.seq ?_); refine JC.region ?_)
    refine JL.pure rfl rfl ?_
    refine JL.call fb131 rfl rfl (region_c2 H (bothT_good g a b) (by omega) hgW.2) ?_
    rintro _ w6 ⟨rv, rfl, H⟩
    refine ⟨_, rfl, ?_⟩
    refine JL.pure rfl rfl ?_
    refine JL.pure rfl rfl ?_
    refine JL.pure rfl rfl ?_
    refine JL.pure rfl rfl ?_
    refine JL.nil ?_
    ((repeat refine Ex.normal_block ?_); refine Ex.next ?_)
    ((repeat refine JC.seq ?_); refine JC.ret ?_)
    (repeat (first | refine Ex.ret_then ?_ | refine Ex.ret_block ?_))
    refine Ex.ret2 rfl (.tmp rfl) (.tmp rfl) ?_
    unfold bothR; rw [hok]
    exact ⟨_, rfl, (H.drop 1).drop 1⟩
theorem great_small {g : Grid} {n : Int} {l : List (List Run)} (h : greatB g n l = false) : (g.ok = true → g.W * g.H ≤ n) ∧ g.land.length ≤ 300 ∧ ∀ r ∈ l, r.length ≤ 300 := by
  unfold greatB at h
  simp only [Bool.or_eq_false_iff] at h
  obtain ⟨⟨h1, h2⟩, h3⟩ := h
  refine ⟨fun hg => ?_, ?_, fun r hr => ?_⟩
  · obtain ⟨hW, hH, _, _⟩ := Grid.ok_b hg
    unfold hugeB at h1
    simp only [Bool.and_eq_false_iff, decide_eq_false_iff_not] at h1
    omega
  · have := of_decide_eq_false h2; omega
  · have := List.any_eq_false.1 h3 r hr
    simp at this
    omega
theorem tame_right {W H : Int} (hW : W ≤ 256) {rs : List Run} (h : Canon W H rs) : Tame rs := fun r hr => by have := h.rng r hr; omega
end Go.J

namespace Go.J
set_option linter.unusedSimpArgs false
set_option linter.unusedVariables false
open Go.RowKit
/-! ## ranging over functions -/
/-- a call of yield -/
def YieldW (P : Program) (l : Nat) (vs : List Value) (w : World) (R : Ending → World → Prop) : Prop := YieldAt Fence.wide 0 P l vs.toArray w R
theorem roundIn_ro {P : Program} {l : Nat} {f : FuncId} {tmps : Array Value} {assign body : Code} {w : World} {R : Ending → World → Prop} (ro : Option Nat) (h : RoundIn Fence.wide 0 P l f tmps assign body w R) : RoundIn (wideR ro) 0 P l f tmps assign body w R := h
section
variable {P : Program} {N : Sz} {ops : Array Oper} {Q : Exit → Act → World → Prop} {rest : List Oper} {fr : Fr} {w w0 : World} {L : List HP}
  {d : Option Tmp} {ty : TypeId} {pos : String} {af : Array Edge}
theorem JL.yield {x : Operand} {l : Nat} {xs : Array Operand} {tys : Array TypeId} {vs : List Value} {R : Ending → World → Prop} (hf : fr.ev x = some (.func (.yield l) #[] #[])) (hx : fr.evs xs.toList = some vs) (hd : Fr.fits N d = true)
    (hy : YieldW P l vs w R) (k : ∀ e w', R e w' → ∃ v, e = .returned v ∧ JL P N ops Q rest (fr.put d v) w') : JL P N ops Q (⟨d, .call ⟨.value x, xs, tys⟩, ty, pos, af, none⟩ :: rest) fr w := by
  intro a H
  obtain ⟨fn, tmps, assign, body, hrun, hR⟩ := hy
  refine wpListIn_plain rfl fun K hK => ⟨fun _ _ => trivial, ?_⟩
  show Oper.uponIn (wideR N.ro) 0 P _ a K Q ((Oper.semAt N.ro a.eval _).run P w)
  have h1 : (xs.map a.eval) = vs.toArray := by
    apply Array.ext'
    rw [Array.toList_map, H.evs hx]
  have hex : (execOp a.eval ⟨d, .call ⟨.value x, xs, tys⟩, ty, pos, af, none⟩).run P w = .ok (.round l fn tmps assign body) w := by
    simp only [execOp, resolve]
    simp [H.eval hf, Deferred.ofValue, h1, invoke, hrun]
  rw [semAt_run hex (by simp)]
  refine ⟨fun h => by simp [wideR] at h, roundIn_ro N.ro (hR.mono fun e w' he => ?_)⟩
  obtain ⟨v, rfl, hk⟩ := k e w' he
  exact hK _ _ (hk _ (H.putO hd v))
end
/-- what a function that is ranged over does: items: what it yields; A: memory of its own from before; Rd: what it reads and the rounds keep -/
def Iter (P : Program) (gf : FuncId) (lb : List Value) {α : Type} (vs : α → List Value) (items : List α) (w0 : World) (A : List HP) (Rd : World → Prop) : Prop :=
  ∀ (l : Nat) (T Tx : List α → List HP → Prop), (∀ pre L X w, T pre L → Own w0 w (X ++ L) → Rd w) →
    (∀ pre x L X w, pre ++ [x] <+: items → T pre L → Own w0 w (X ++ L) → YieldW P l (vs x) w fun e w' => ∃ (b : Bool) (L' : List HP), e = .returned (.bool b) ∧ (if b then T else Tx) (pre ++ [x]) L' ∧ Own w0 w' (X ++ L')) →
    ∀ w L X, T [] L → Own w0 w (A ++ (X ++ L)) → Calls P gf (.func (.yield l) #[] #[] :: lb).toArray w fun e w' => (∃ v, e = .returned v) ∧ ∃ L', Own w0 w' (X ++ L') ∧ (T items L' ∨ ∃ pre, pre <+: items ∧ Tx pre L')
/-- how a round's body may be left -/
def rdPost {α : Type} (S : List α → List HP → Prop) (SX : Code → List α → List HP → Prop) (xs : List α) (w0 : World) (X : List HP) : Exit → Act → World → Prop
  | .normal, _, w' => ∃ L', S xs L' ∧ Own w0 w' (X ++ L')
  | .ret, _, w' => ∃ L', SX .ret xs L' ∧ Own w0 w' (X ++ L')
  | .exit id, _, w' => ∃ L', SX (.exit id) xs L' ∧ Own w0 w' (X ++ L')
  | _, _, _ => False
def Fr.puts : List Tmp → List Value → Fr → Fr
  | t :: ts, v :: vs, fr => Fr.puts ts vs ((t, v) :: fr)
  | _, _, fr => fr
theorem Has.puts {N : Sz} : ∀ {ts : List Tmp} {vs : List Value} {fr : Fr} {tmps : Array Value} {ds : List Deferred}, Has N fr ⟨tmps, ds⟩ → ts.all (fun t => Nat.ble (t + 1) N.n) = true →
    Has N (fr.puts ts vs) ⟨(ts.zip vs).foldl (fun t (p : Tmp × Value) => t.setIfInBounds p.1 p.2) tmps, ds⟩ := by
  intro ts
  induction ts with
  | nil => intro vs fr tmps ds H _; exact H
  | cons t ts ih =>
    intro vs fr tmps ds H h
    simp only [List.all_cons, Bool.and_eq_true] at h
    cases vs with
    | nil => exact H
    | cons v vs =>
      simp only [List.zip_cons_cons, List.foldl_cons]
      exact ih (H.put (d := t) (Nat.le_of_ble_eq_true h.1) v) h.2
theorem Own.putAt {w0 w : World} {X M : List HP} {β : Nat} {o : Obj} (H : Own w0 w (X ++ blk β o :: M)) (o' : Obj) : w.heap[β]? = some o ∧ Own w0 (w.putObj β o') (X ++ blk β o' :: M) := by
  have H1 : Own w0 w (blk β o :: (X ++ M)) := H.perm List.perm_middle
  have hg := (H1.get (i := 0) rfl).2
  have H2 := H1.put (i := 0) (β := β) rfl o' (w' := w.putObj β o') rfl rfl rfl (by simp) (fun j hj _ => World.putObj_heap_other hj) (World.putObj_heap_same (Array.getElem?_eq_some_iff.1 hg).1)
  exact ⟨hg, H2.perm List.perm_middle.symm⟩
section
variable {P : Program} {N : Sz} {Q : Exit → Act → World → Prop} {fr : Fr} {w w0 : World}
theorem JC.rangeFunc {α ι : Type} {g : Operand} {ps : Array Tmp} {assign body : Code} {gf : FuncId} {lb : List Value} {vs : α → List Value} {items : List α} {A : List HP} {Rd : World → Prop}
    (hg : fr.ev g = some (.func (.func gf) #[] ⟨lb⟩)) (hb : hasBody P gf = true) (hit : Iter P gf lb vs items w0 A Rd) (hvs : ∀ x, (vs x).length = ps.size) (hps : ps.toList.all (fun t => Nat.ble (t + 1) N.n) = true)
    (S : List α → List HP → Prop) (SX : Code → List α → List HP → Prop) {L0 : List HP} (H : Own w0 w (A ++ L0)) (h0 : S [] L0) (hrd : ∀ pre L X w, S pre L → Own w0 w (X ++ L) → Rd w)
    (F : ι → α → Fr) (E : ι → α → List HP)
    (hassign : ∀ l pre x L X w, pre ++ [x] <+: items → S pre L → Own w0 w (X ++ L) → JC P ⟨N.n, [], some l⟩ assign (Exit.then (fun a1 w1 => ∃ i, Has ⟨N.n, [], some l⟩ (F i x) a1 ∧ Own w0 w1 (E i x ++ (X ++ L))) (fun _ _ _ => False)) (fr.puts ps.toList (vs x)) w)
    (hbody : ∀ l i pre x L X w, pre ++ [x] <+: items → S pre L → Own w0 w (E i x ++ (X ++ L)) → JC P ⟨N.n, [], some l⟩ body (rdPost S SX (pre ++ [x]) w0 X) (F i x) w)
    (hdone : ∀ D w' L, S items L → Own w0 w' (dfr D :: L) → Ex ⟨N.n, D :: N.ds, N.ro⟩ Q .normal fr w')
    (hstop : ∀ D c pre w' L, pre <+: items → SX c pre L → Own w0 w' (dfr D :: L) → JC P ⟨N.n, D :: N.ds, N.ro⟩ c Q fr w') (hro : N.ro = none := by rfl) : JC P N (.rangeFunc g ps assign body) Q fr w := by
  intro a Ha
  refine wpIn_rangeFunc fun fn _ => ?_
  have hro' : (wideR N.ro).round = none := hro
  rw [hro']
  obtain ⟨rec, hrec⟩ : ∃ rec : LoopState → Option Code → Loop, rec = fun st pe => { state := st, pending := pe, fn, tmps := a.tmps, params := ps, assign, body, defers := w.heap.size } := ⟨_, rfl⟩
  obtain ⟨l, hl⟩ : ∃ l, l = w.heap.size + 1 := ⟨_, rfl⟩
  obtain ⟨D, hD⟩ : ∃ D, D = w.heap.size := ⟨_, rfl⟩
  obtain ⟨W1, hW1⟩ : ∃ W1, W1 = (w.alloc (.deferred (some []))).alloc (.loop (rec .ready none)) := ⟨_, rfl⟩
  have H1 : Own w0 W1 (blk l (.loop (rec .ready none)) :: dfr D :: (A ++ L0)) := by
    rw [hW1, hl, hD]
    have h2 := (H.new (.deferred (some []))).new (.loop (rec .ready none))
    rw [World.size_alloc] at h2
    exact h2
  refine ⟨l, [mark D], W1, { target := .fn (.func gf) ⟨lb⟩, args := #[.func (.yield l) #[] #[]] }, W1, gf, (.func (.yield l) #[] #[] :: lb).toArray, W1, ?_, ?_, fun _ _ => trivial, ?_, fun h => by simp [wideR] at h, callsIn_wide.2 ?_⟩
  · rw [hW1, hrec, hl, hD]; exact run_enterLoop_outer _ _ _ _ _
  · simp only [resolve, Ha.eval hg]
    simp [go_sem, Deferred.ofValue, Act.eval]
  · simp [invoke, callFunc_run hb]
  have hc := hit l (fun pre L => ∃ L1, L = blk l (.loop (rec .ready none)) :: dfr D :: L1 ∧ S pre L1) (fun pre L => ∃ c L1, L = blk l (.loop (rec .done (some c))) :: dfr D :: L1 ∧ SX c pre L1) ?_ ?_ W1
    (blk l (.loop (rec .ready none)) :: dfr D :: L0) [] ⟨L0, rfl, h0⟩ (H1.perm ?_)
  · refine hc.mono ?_
    rintro e w' ⟨⟨v, rfl⟩, L', hO, hh⟩
    rcases hh with ⟨L1, rfl, hS⟩ | ⟨pre, hpre, c, L1, rfl, hS⟩
    · obtain ⟨hg', hO'⟩ := Own.putAt (X := []) hO (.loop { rec .ready none with state := .exhausted })
      refine ⟨_, _, run_endLoop hg' (by rw [hrec]; simp), ?_⟩
      subst hrec
      exact hdone D _ L1 hS ((show Own w0 _ _ from hO').drop 0) ⟨a.tmps, [mark D] ++ a.defers⟩ ⟨Ha.size, by show mark D :: a.defers = _; rw [Ha.defers]; rfl, Ha.get⟩
    · obtain ⟨hg', hO'⟩ := Own.putAt (X := []) hO (.loop { rec .done (some c) with state := .exhausted })
      refine ⟨_, _, run_endLoop hg' (by rw [hrec]; simp), ?_⟩
      subst hrec
      exact hstop D c pre _ L1 hpre hS ((show Own w0 _ _ from hO').drop 0) ⟨a.tmps, [mark D] ++ a.defers⟩ ⟨Ha.size, by show mark D :: a.defers = _; rw [Ha.defers]; rfl, Ha.get⟩
  · rintro pre L X w' ⟨L1, rfl, hS⟩ hO
    refine hrd pre L1 (X ++ [blk l (.loop (rec .ready none)), dfr D]) w' hS ?_
    rw [List.append_assoc]; exact hO
  · subst hrec
    rintro pre x L X w' hpx ⟨L1, rfl, hS⟩ hO
    have hg' := (hO.putAt (.loop { state := .ready, pending := none, fn, tmps := a.tmps, params := ps, assign, body, defers := w.heap.size })).1
    refine ⟨_, _, _, _, run_yield hg' (by simpa using hvs x), roundIn_of_wpIn (F := Fence.wide) trivial ?_⟩
    have hO1 := hO
    rw [show X ++ blk l _ :: dfr D :: L1 = (X ++ [blk l _, dfr D]) ++ L1 from by rw [List.append_assoc]; rfl] at hO1
    have hA := hassign l pre x L1 _ _ hpx hS hO1 ⟨(ps.toList.zip (vs x)).foldl (fun t (p : Tmp × Value) => t.setIfInBounds p.1 p.2) a.tmps, []⟩ (Has.puts (N := ⟨N.n, [], some l⟩) ⟨Ha.size, rfl, Ha.get⟩ hps)
    have hfold : (ps.zip (vs x).toArray).foldl (fun (tmps : Array Value) (x : Tmp × Value) => match x with | (t, a) => tmps.setIfInBounds t a) a.tmps = (ps.toList.zip (vs x)).foldl (fun t (p : Tmp × Value) => t.setIfInBounds p.1 p.2) a.tmps := by
      rw [← Array.foldl_toList, Array.toList_zip]
    rw [← hfold] at hA
    refine Code.wpIn_mono (fun e a1 w1 h1 => ?_) hA
    cases e <;> try exact h1.elim
    obtain ⟨i, Ha1, hO2⟩ := h1
    have hO3 : Own w0 w1 ((E i x ++ X) ++ blk l (.loop { state := .ready, pending := none, fn, tmps := a.tmps, params := ps, assign, body, defers := w.heap.size }) :: dfr D :: L1) := by
      have h := hO2
      rw [List.append_assoc X, ← List.append_assoc (E i x)] at h
      exact h
    obtain ⟨hg3, hO4⟩ := hO3.putAt (.loop { state := .busy, pending := none, fn, tmps := a.tmps, params := ps, assign, body, defers := w.heap.size })
    refine ⟨_, run_beginRound hg3 rfl, ?_⟩
    have hO5 : Own w0 (w1.putObj l (.loop { state := .busy, pending := none, fn, tmps := a.tmps, params := ps, assign, body, defers := w.heap.size })) (E i x ++ ((X ++ [blk l (.loop { state := .busy, pending := none, fn, tmps := a.tmps, params := ps, assign, body, defers := w.heap.size }), dfr D]) ++ L1)) := by
      rw [List.append_assoc X, ← List.append_assoc (E i x)]
      exact hO4
    have hJ := hbody l i pre x L1 _ _ hpx hS hO5 _ Ha1
    refine Code.wpIn_mono (fun e a' w2 hp => ?_) hJ
    have key : ∀ (jump : Option Code) (L' : List HP), Own w0 w2 ((X ++ [blk l (.loop { state := .busy, pending := none, fn, tmps := a.tmps, params := ps, assign, body, defers := w.heap.size }), dfr D]) ++ L') →
        ∃ w3, (Instr.endRound l jump).run P w2 = .ok (.bool jump.isNone) w3 ∧ Own w0 w3 (X ++ blk l (.loop { state := if jump.isNone then .ready else .done, pending := jump, fn, tmps := a.tmps, params := ps, assign, body, defers := w.heap.size }) :: dfr D :: L') := by
      intro jump L' hO3
      rw [List.append_assoc] at hO3
      obtain ⟨hg3, hO4⟩ := Own.putAt (M := dfr D :: L') hO3 (.loop { state := if jump.isNone then .ready else .done, pending := jump, fn, tmps := a.tmps, params := ps, assign, body, defers := w.heap.size })
      exact ⟨_, run_endRound jump hg3, hO4⟩
    cases e with
    | normal =>
      obtain ⟨L', hS', hO3⟩ := hp
      obtain ⟨w3, hr, hO4⟩ := key none L' hO3
      exact ⟨_, w3, hr, true, _, rfl, ⟨L', rfl, hS'⟩, hO4⟩
    | ret =>
      obtain ⟨L', hS', hO3⟩ := hp
      obtain ⟨w3, hr, hO4⟩ := key (some .ret) L' hO3
      exact ⟨_, w3, hr, false, _, rfl, ⟨.ret, L', rfl, hS'⟩, hO4⟩
    | exit id =>
      obtain ⟨L', hS', hO3⟩ := hp
      obtain ⟨w3, hr, hO4⟩ := key (some (.exit id)) L' hO3
      exact ⟨_, w3, hr, false, _, rfl, ⟨.exit id, L', rfl, hS'⟩, hO4⟩
    | goto t => exact hp.elim
    | panic c => exact hp.elim
    | outgrown => exact hp.elim
  · -- the order of what is ours
    simp only [List.nil_append]
    refine List.Perm.trans ?_ (List.perm_middle (l₁ := A)).symm
    refine List.Perm.cons _ ?_
    exact (List.perm_middle (l₁ := A)).symm
/-- the assignment's end -/
theorem Ex.asg {α ι : Type} {F : ι → α → Fr} {E : ι → α → List HP} {x : α} {M : List HP} {N' : Sz} {R : Exit → Act → World → Prop} (i : ι) (hs : fr.sub (F i x)) (H : Own w0 w (E i x ++ M)) :
    Ex N' (Exit.then (fun a1 w1 => ∃ i, Has N' (F i x) a1 ∧ Own w0 w1 (E i x ++ M)) R) .normal fr w := fun _ Ha => ⟨i, Ha.sub hs, H⟩
/-- the body's end -/
theorem Ex.round {α : Type} {S : List α → List HP → Prop} {SX : Code → List α → List HP → Prop} {xs : List α} {X : List HP} (L' : List HP) (hS : S xs L') (H : Own w0 w (X ++ L')) : Ex N (rdPost S SX xs w0 X) .normal fr w := fun _ _ => ⟨L', hS, H⟩
end
end Go.J

namespace Go.J
open Go.RowKit Go.Proofs
set_option maxRecDepth 8000
set_option linter.unusedSimpArgs false
set_option linter.unusedVariables false
def Cell.cs (c : Cell) : List Value := [.int .i64 c.X, .int .i64 c.Y]
def cellRow (v : Value) (l : List Cell) : HP := trow 62 2 Cell.cs v l
/-- the cells of a run, of runs -/
def cellsRun (r : Run) : List Cell := (List.range (r.To - r.From).toNat).map fun (k : Nat) => (⟨r.From + k, r.Y⟩ : Cell)
def cellsAll (rs : List Run) : List Cell := rs.flatMap cellsRun
theorem cellsAll_take {rs : List Run} {k : Nat} (hk : k < rs.length) : cellsAll (rs.take (k + 1)) = cellsAll (rs.take k) ++ cellsRun rs[k] := by
  unfold cellsAll; rw [List.take_succ_eq_append_getElem hk, List.flatMap_append]; simp
theorem cellsRun_get (r : Run) (j : Nat) (hj : (j : Int) < r.To - r.From) : (cellsRun r)[j]? = some ⟨r.From + j, r.Y⟩ := by
  unfold cellsRun
  rw [List.getElem?_map, List.getElem?_range (by omega)]
  rfl
theorem cellsRun_len (r : Run) : (cellsRun r).length = (r.To - r.From).toNat := by simp [cellsRun]
theorem cells_prefix {rs : List Run} {k j : Nat} (hk : k < rs.length) (hj : (j : Int) < rs[k].To - rs[k].From) : (cellsAll (rs.take k) ++ (cellsRun rs[k]).take j) ++ [⟨rs[k].From + j, rs[k].Y⟩] <+: cellsAll rs := by
  have h1 : (cellsRun rs[k]).take (j + 1) = (cellsRun rs[k]).take j ++ [⟨rs[k].From + j, rs[k].Y⟩] := by
    rw [List.take_add_one, cellsRun_get _ j hj]; rfl
  rw [List.append_assoc, ← h1]
  have h2 : rs = rs.take k ++ rs[k] :: rs.drop (k + 1) := by rw [← List.drop_eq_getElem_cons hk, List.take_append_drop]
  refine ⟨(cellsRun rs[k]).drop (j + 1) ++ cellsAll (rs.drop (k + 1)), ?_⟩
  conv => rhs; rw [h2]
  unfold cellsAll
  rw [List.flatMap_append, List.flatMap_cons]
  simp only [List.append_assoc]
  congr 1
  rw [← List.append_assoc, List.take_append_drop]
theorem mem_cellsRun {r : Run} {c : Cell} : c ∈ cellsRun r ↔ r.Y = c.Y ∧ r.From ≤ c.X ∧ c.X < r.To := by
  unfold cellsRun
  rw [List.mem_map]
  constructor
  · rintro ⟨k, hk, rfl⟩
    rw [List.mem_range] at hk
    exact ⟨rfl, by simp only; omega, by simp only; omega⟩
  · rintro ⟨h1, h2, h3⟩
    refine ⟨(c.X - r.From).toNat, List.mem_range.2 (by omega), ?_⟩
    cases c
    simp only [Cell.mk.injEq] at *
    omega
theorem mem_cellsAll {rs : List Run} {c : Cell} : c ∈ cellsAll rs ↔ hasB rs c = true := by
  unfold cellsAll
  rw [List.mem_flatMap, hasB_iff]
  constructor
  · rintro ⟨r, hr, h⟩; exact ⟨r, hr, mem_cellsRun.1 h⟩
  · rintro ⟨r, hr, h⟩; exact ⟨r, hr, mem_cellsRun.2 h⟩
/-- cells$1 yields the cells of the runs that its box holds -/
theorem cells_iter (w0 : World) (b : Nat) (rv : Value) (rs : List Run) (ht : Tame rs) :
    Iter Try.prog 222 [.pointer (some ⟨b, 0, none⟩)] (fun c : Cell => [c.ev]) (cellsAll rs) w0 [] (fun w => LdAt w b 0 (false, 1) rv ∧ b < w.heap.size ∧ SlR w rv rs) := by
  intro l T Tx hrd hy w L X hT H
  replace H : Own w0 w (X ++ L) := H
  obtain ⟨a, cap, rfl⟩ := (hrd _ _ _ _ hT H).2.2.len
  refine calls_J (args := [.func (.yield l) #[] #[], .pointer (some ⟨b, 0, none⟩)]) Try.func222 rfl Try.ntmps222 rfl ?_
  ((repeat refine JC.seq ?_); refine JC.region ?_)
  refine JL.load rfl sh50 (hrd _ _ _ _ hT H).1 rfl ?_
  refine JL.len rfl Try.underlying50 rfl ?_
  refine JL.pure rfl rfl ?_
  refine JL.nil ?_
  ((repeat refine Ex.normal_block ?_); refine Ex.next ?_)
  ((repeat refine JC.seq ?_); refine JC.block ?_)
  ((repeat refine JC.seq ?_); refine JC.loop (ι := Nat × List HP) (fun x => [(0, .func (.yield l) #[] #[]), (6, .slice a rs.length cap), (7, .int .i64 rs.length), (8, .int .i64 x.1)])
    (fun x wr => x.1 ≤ rs.length ∧ T (cellsAll (rs.take x.1)) x.2 ∧ Own w0 wr (X ++ x.2)) (fun x => rs.length - x.1) (0, L) ?_ ?_ ?_)
  · exact ⟨rfl, rfl, rfl, rfl, trivial⟩
  · exact ⟨Nat.zero_le _, hT, H⟩
  · rintro ⟨k, L⟩ wr ⟨hk, hT, H⟩
    simp only at hk hT H
    show JC _ _ _ _ [(0, .func (.yield l) #[] #[]), (6, .slice a rs.length cap), (7, .int .i64 rs.length), (8, .int .i64 k)] _
    ((repeat refine JC.seq ?_); refine JC.region ?_)
    refine JL.pure rfl rfl ?_
    refine JL.nil ?_
    ((repeat refine Ex.normal_block ?_); refine Ex.next ?_)
    ((repeat refine JC.seq ?_); refine JC.cond rfl ?_ ?_)
    · intro h9
      (try simp only [Bool.not_eq_true', Bool.not_eq_false', decide_eq_true_eq, decide_eq_false_iff_not] at h9)
      have h9 : k < rs.length := by omega
      have hsl := (hrd _ _ _ _ hT H).2.2
      obtain ⟨_, _, _, he1, ha'⟩ := id hsl
      cases he1
      obtain ⟨β, off, hra, hβ, hc⟩ := ha'.resolve_left (by rintro rfl; simp at h9)
      have hx : rs[k]? = some rs[k] := by simp [h9]
      have htk := ht _ (List.getElem_mem h9)
      ((repeat refine JC.seq ?_); refine JC.skip ?_)
      ((repeat refine Ex.normal_block ?_); refine Ex.next ?_)
      ((repeat refine JC.seq ?_); refine JC.block ?_)
      ((repeat refine JC.seq ?_); refine JC.region ?_)
      refine JL.indexS k (congrArg (fun z => some (Value.slice z rs.length cap)) hra) rfl Try.underlying50 sh140 rfl h9 rfl ?_
      refine JL.load rfl sh140 (hc k _ hx) rfl ?_
      refine JL.alloc H z140 rfl ?_
      intro b4 w1 H
      refine JL.storeB 0 H rfl rfl sh140 rfl rfl rfl rfl rfl ?_
      intro w2 H
      refine JL.nil ?_
      ((repeat refine Ex.normal_block ?_); refine Ex.next ?_)
      ((repeat refine JC.seq ?_); refine JC.region ?_)
      refine JL.fieldAddr rfl Try.underlying140 rfl sh3 rfl ?_
      refine JL.loadB 0 H rfl sh3 rfl rfl rfl ?_
      refine JL.pure rfl rfl ?_
      refine JL.nil ?_
      ((repeat refine Ex.normal_block ?_); refine Ex.next ?_)
      ((repeat refine JC.seq ?_); refine JC.block ?_)
      ((repeat refine JC.seq ?_); refine JC.loop (ι := Int × List HP) (fun x => [(0, .func (.yield l) #[] #[]), (6, .slice a rs.length cap), (7, .int .i64 rs.length), (8, .int .i64 k), (4, .pointer (some ⟨b4, 0, none⟩)), (5, .int .i64 x.1)])
        (fun x wr => (rs[k].From ≤ x.1 ∧ (x.1 ≤ rs[k].To ∨ x.1 = rs[k].From)) ∧ T (cellsAll (rs.take k) ++ (cellsRun rs[k]).take (x.1 - rs[k].From).toNat) x.2 ∧ Own w0 wr (blk b4 (.cells ⟨[.int .i64 rs[k].Y, .int .i64 rs[k].From, .int .i64 rs[k].To]⟩ 140 (0, 0)) :: (X ++ x.2))) (fun x => (rs[k].To - x.1).toNat) (rs[k].From, L) ?_ ?_ ?_)
      · exact ⟨rfl, rfl, rfl, rfl, rfl, rfl, trivial⟩
      · exact ⟨⟨Int.le_refl _, .inr rfl⟩, by simpa using hT, H⟩
      · rintro ⟨x, L⟩ wr ⟨⟨hx0, hx1⟩, hT, H⟩
        simp only at hx0 hx1 hT H
        show JC _ _ _ _ [(0, .func (.yield l) #[] #[]), (6, .slice a rs.length cap), (7, .int .i64 rs.length), (8, .int .i64 k), (4, .pointer (some ⟨b4, 0, none⟩)), (5, .int .i64 x)] _
        ((repeat refine JC.seq ?_); refine JC.region ?_)
        refine JL.pure rfl rfl ?_
        refine JL.fieldAddr rfl Try.underlying140 rfl sh3 rfl ?_
        refine JL.loadB 0 H rfl sh3 rfl rfl rfl ?_
        refine JL.pure rfl rfl ?_
        refine JL.nil ?_
        ((repeat refine Ex.normal_block ?_); refine Ex.next ?_)
        ((repeat refine JC.seq ?_); refine JC.cond rfl ?_ ?_)
        · intro h17
          (try simp only [Bool.not_eq_true', Bool.not_eq_false', decide_eq_true_eq, decide_eq_false_iff_not] at h17)
          have hpre := cells_prefix (rs := rs) (j := (x - rs[k].From).toNat) h9 (by omega)
          rw [show rs[k].From + ((x - rs[k].From).toNat : Int) = x by omega] at hpre
          ((repeat refine JC.seq ?_); refine JC.skip ?_)
          ((repeat refine Ex.normal_block ?_); refine Ex.next ?_)
          ((repeat refine JC.seq ?_); refine JC.block ?_)
          ((repeat refine JC.seq ?_); refine JC.region ?_)
          refine JL.pure rfl rfl ?_
          refine JL.pure rfl rfl ?_
          refine JL.fieldAddr rfl Try.underlying140 rfl sh3 rfl ?_
          refine JL.loadB 0 H rfl sh3 rfl rfl rfl ?_
          refine JL.build s62 rfl rfl ?_
          refine JL.yield rfl rfl rfl (hy _ (⟨x, rs[k].Y⟩ : Cell) L (blk b4 (.cells ⟨[.int .i64 rs[k].Y, .int .i64 rs[k].From, .int .i64 rs[k].To]⟩ 140 (0, 0)) :: X) _ hpre hT H) ?_
          rintro _ w3 ⟨bb, L9, rfl, hT9, H⟩
          refine ⟨_, rfl, ?_⟩
          refine JL.pure rfl rfl ?_
          refine JL.nil ?_
          ((repeat refine Ex.normal_block ?_); refine Ex.next ?_)
          ((repeat refine JC.seq ?_); refine JC.cond rfl ?_ ?_)
          · intro h26
            (try simp only [Bool.not_eq_true', Bool.not_eq_false', decide_eq_true_eq, decide_eq_false_iff_not] at h26)
            have h26 : bb = false := by simpa using h26
            ((repeat refine JC.seq ?_); refine JC.ret ?_)
            (repeat (first | refine Ex.ret_then ?_ | refine Ex.ret_block ?_))
            refine Ex.ret0 rfl ⟨⟨_, rfl⟩, L9, (show Own w0 _ (_ :: (X ++ L9)) from H).drop 0, .inr ⟨_, hpre, ?_⟩⟩
            rw [h26] at hT9
            exact hT9
          · intro h26
            (try simp only [Bool.not_eq_true', Bool.not_eq_false', decide_eq_true_eq, decide_eq_false_iff_not] at h26)
            have h26 : bb = true := by simpa using h26
            ((repeat refine JC.seq ?_); refine JC.skip ?_)
            ((repeat refine Ex.normal_block ?_); refine Ex.next ?_)
            ((repeat refine JC.seq ?_); refine JC.region ?_)
            refine JL.pure rfl rfl ?_
            refine JL.arith rfl (by unfold In64; omega) rfl ?_
            refine JL.pure rfl rfl ?_
            refine JL.nil ?_
            (repeat refine Ex.normal_block ?_)
            refine Ex.again (x + 1, L9) ⟨rfl, rfl, rfl, rfl, rfl, rfl, trivial⟩ ⟨⟨by simp only; omega, by simp only; omega⟩, ?_, H⟩ (by simp only; omega)
            simp only
            rw [show (x + 1 - rs[k].From).toNat = (x - rs[k].From).toNat + 1 by omega, List.take_add_one, cellsRun_get _ _ (by omega), ← List.append_assoc, show rs[k].From + ((x - rs[k].From).toNat : Int) = x by omega]
            rw [h26] at hT9
            exact hT9
        · intro h17
          (try simp only [Bool.not_eq_true', Bool.not_eq_false', decide_eq_true_eq, decide_eq_false_iff_not] at h17)
          
          ((repeat refine JC.seq ?_); refine JC.exit ?_)
          (repeat (first | refine Ex.exit_then ?_ | refine Ex.exit_miss (by decide) ?_))
          refine Ex.exit_hit ?_
          ((repeat refine Ex.normal_block ?_); refine Ex.next ?_)
          ((repeat refine JC.seq ?_); refine JC.region ?_)
          refine JL.arith rfl (by unfold In64; omega) rfl ?_
          refine JL.pure rfl rfl ?_
          refine JL.nil ?_
          (repeat refine Ex.normal_block ?_)
          have hxx : x = max rs[k].From rs[k].To := by omega
          refine Ex.again (k + 1, L) ⟨rfl, rfl, rfl, rfl, trivial⟩ ⟨h9, ?_, (show Own w0 _ (_ :: (X ++ L)) from H).drop 0⟩ (by simp only; omega)
          simp only
          rw [cellsAll_take h9]
          rwa [List.take_of_length_le (l := cellsRun rs[k]) (by rw [cellsRun_len]; omega)] at hT
    · intro h9
      (try simp only [Bool.not_eq_true', Bool.not_eq_false', decide_eq_true_eq, decide_eq_false_iff_not] at h9)
      have hkk : k = rs.length := by omega
      subst hkk
      rw [List.take_length] at hT
      ((repeat refine JC.seq ?_); refine JC.exit ?_)
      (repeat (first | refine Ex.exit_then ?_ | refine Ex.exit_miss (by decide) ?_))
      refine Ex.exit_hit ?_
      ((repeat refine Ex.normal_block ?_); refine Ex.end_ ?_)
      refine Ex.ret0 rfl ⟨⟨_, rfl⟩, L, H, .inl hT⟩
theorem Own.swap {w0 w : World} {X L : List HP} (H : Own w0 w (X ++ L)) : Own w0 w (L ++ X) := H.perm List.perm_append_comm
theorem ap62 : tyApp Try.prog 62 = some (2, 16) := by kernel_rfl
theorem appendSeq_c {gf : FuncId} {lb : List Value} {items : List Cell} {Rd : World → Prop} (w : World) (hb : hasBody Try.prog gf = true) (hit : Iter Try.prog gf lb (fun c : Cell => [c.ev]) items w [] Rd)
    (hRd : ∀ w', Below w.heap.size w w' → Rd w') (hlen : items.length ≤ 1000000000) :
    Calls Try.prog 221 #[.slice none 0 0, .func (.func gf) #[] ⟨lb⟩] w (fun e w' => ∃ v, e = .returned v ∧ Own w w' [cellRow v items]) := by
  refine calls_J (args := [.slice none 0 0, .func (.func gf) #[] ⟨lb⟩]) Try.func221 rfl Try.ntmps221 rfl ?_
  have H := Own.start w
  ((repeat refine JC.seq ?_); refine JC.region ?_)
  refine JL.box H rfl rfl rfl ?_
  intro b2 w1 H
  refine JL.pure rfl rfl ?_
  refine JL.nil ?_
  ((repeat refine Ex.normal_block ?_); refine Ex.next ?_)
  ((repeat refine JC.seq ?_); refine JC.region ?_)
  refine JL.pure rfl rfl ?_
  refine JL.nil ?_
  ((repeat refine Ex.normal_block ?_); refine Ex.next ?_)
  ((repeat refine JC.seq ?_); refine JC.block ?_)
  ((repeat refine JC.seq ?_); refine JC.rangeFunc (ι := Nat) (A := []) rfl hb hit (fun _ => rfl) rfl (fun pre L => ∃ v, L = [cellRow v pre, blk b2 (.cells ⟨[v]⟩ 68 (0, 0))]) (fun _ _ _ => False) (L0 := [cellRow (.slice none 0 0) [], blk b2 (.cells ⟨[.slice none 0 0]⟩ 68 (0, 0))]) (H.nilRow 62 2) ⟨_, rfl⟩ ?_
    (fun b x => [(2, .pointer (some ⟨b2, 0, none⟩)), (5, .pointer (some ⟨b, 0, none⟩))]) (fun b x => [blk b (.cells ⟨x.cs⟩ 62 (0, 0))]) ?_ ?_ ?_ ?_)
  · rintro pre L X w' _ h
    exact hRd _ h.below
  · intro l pre x L X wr hpx hS H
    ((repeat refine JC.seq ?_); refine JC.region ?_)
    refine JL.alloc H z62 rfl ?_
    intro b5 w2 H
    refine JL.storeB 0 H rfl rfl sh62 rfl rfl rfl rfl rfl ?_
    intro w3 H
    refine JL.nil ?_
    (repeat refine Ex.normal_block ?_)
    refine Ex.asg (E := fun b (x : Cell) => [blk b (.cells ⟨x.cs⟩ 62 (0, 0))]) (F := fun b x => [(2, .pointer (some ⟨b2, 0, none⟩)), (5, .pointer (some ⟨b, 0, none⟩))]) (x := x) (M := X ++ L) b5 ?_ H
    exact ⟨rfl, rfl, trivial⟩
  · rintro l b5 pre x L X wr hpx ⟨v, rfl⟩ H
    have hpl : pre.length + 1 ≤ items.length := by have := hpx.length_le; simpa using this
    replace H : Own w wr (blk b5 (.cells ⟨x.cs⟩ 62 (0, 0)) :: cellRow v pre :: blk b2 (.cells ⟨[v]⟩ 68 (0, 0)) :: X) := H.perm (List.Perm.cons _ (List.perm_append_comm (l₁ := X) (l₂ := [cellRow v pre, blk b2 (.cells ⟨[v]⟩ 68 (0, 0))])))
    ((repeat refine JC.seq ?_); refine JC.block ?_)
    ((repeat refine JC.seq ?_); refine JC.region ?_)
    refine JL.loadB 2 H rfl sh68 rfl rfl rfl ?_
    refine JL.loadB 0 H rfl sh62 rfl rfl rfl ?_
    refine JL.buildSlice H Try.underlying68 sh62 z62 rfl rfl rfl rfl rfl ?_
    intro b10 w4 H
    refine JL.append1 (news := x.cs) 2 0 H Try.underlying68 ap62 rfl rfl rfl rfl rfl rfl (by omega) (by omega) rfl ?_
    intro v2 wa H
    replace H := H.cast (L := _ :: _ :: cellRow v2 (pre ++ [x]) :: _) (by unfold cellRow; rw [← trow_snoc]; rfl)
    obtain ⟨a2, c2, rfl⟩ := H.row_slice (j := 2) rfl
    refine JL.storeB 3 H rfl rfl sh68 rfl rfl rfl rfl rfl ?_
    intro w5 H
    refine JL.nil ?_
    (repeat refine Ex.normal_block ?_)
    have H := (H.drop 0).drop 0
    exact Ex.round [cellRow _ (pre ++ [x]), blk b2 (.cells ⟨[_]⟩ 68 (0, 0))] ⟨_, rfl⟩ H.swap
  · rintro D wr L ⟨v, rfl⟩ H
    ((repeat refine Ex.normal_block ?_); refine Ex.next ?_)
    ((repeat refine JC.seq ?_); refine JC.region ?_)
    refine JL.loadB 2 H rfl sh68 rfl rfl rfl ?_
    refine JL.pure rfl rfl ?_
    refine JL.nil ?_
    ((repeat refine Ex.normal_block ?_); refine Ex.next ?_)
    ((repeat refine JC.seq ?_); refine JC.ret ?_)
    (repeat (first | refine Ex.ret_then ?_ | refine Ex.ret_block ?_))
    refine Ex.retM1 (M := [cellRow v items, blk b2 (.cells ⟨[v]⟩ 68 (0, 0))]) H rfl (fun _ _ => .tmp rfl) (fun w2 H2 => ⟨v, rfl, H2.drop 1⟩)
  · intro D c pre w2 L _ hf; exact hf.elim
theorem collect_c {gf : FuncId} {lb : List Value} {items : List Cell} {Rd : World → Prop} (w : World) (hb : hasBody Try.prog gf = true) (hit : ∀ w0, Iter Try.prog gf lb (fun c : Cell => [c.ev]) items w0 [] Rd)
    (hRd : ∀ w', Below w.heap.size w w' → Rd w') (hlen : items.length ≤ 1000000000) :
    Calls Try.prog 138 #[.func (.func gf) #[] ⟨lb⟩] w (fun e w' => ∃ v, e = .returned v ∧ Own w w' [cellRow v items]) := by
  refine calls_J (args := [.func (.func gf) #[] ⟨lb⟩]) Try.func138 rfl Try.ntmps138 rfl ?_
  have H := Own.start w
  ((repeat refine JC.seq ?_); refine JC.region ?_)
  refine JL.pure rfl rfl ?_
  refine JL.nil ?_
  ((repeat refine Ex.normal_block ?_); refine Ex.next ?_)
  ((repeat refine JC.seq ?_); refine JC.region ?_)
  refine JL.pure rfl rfl ?_
  refine JL.call fb221 rfl rfl (appendSeq_c _ hb (hit _) (fun w' h => hRd w' (by have h1 := H.below; exact h1.trans (h.mono h1.size))) hlen) ?_
  rintro _ w1 ⟨v, rfl, K⟩
  have H := H.join K
  refine ⟨_, rfl, ?_⟩
  refine JL.pure rfl rfl ?_
  refine JL.nil ?_
  ((repeat refine Ex.normal_block ?_); refine Ex.next ?_)
  ((repeat refine JC.seq ?_); refine JC.ret ?_)
  (repeat (first | refine Ex.ret_then ?_ | refine Ex.ret_block ?_))
  refine Ex.ret1 rfl (.tmp rfl) ⟨v, rfl, H⟩
theorem cells_c (w : World) (a : Option Addr) (n c : Nat) : Calls Try.prog 139 #[.slice a n c] w (fun e w' => ∃ b, e = .returned (.func (.func 222) #[] ⟨[.pointer (some ⟨b, 0, none⟩)]⟩) ∧ Own w w' [blk b (.cells ⟨[.slice a n c]⟩ 50 (0, 0))]) := by
  refine calls_J (args := [.slice a n c]) Try.func139 rfl Try.ntmps139 rfl ?_
  have H := Own.start w
  ((repeat refine JC.seq ?_); refine JC.region ?_)
  refine JL.box H rfl rfl rfl ?_
  intro b1 w1 H
  refine JL.pure rfl rfl ?_
  refine JL.nil ?_
  ((repeat refine Ex.normal_block ?_); refine Ex.next ?_)
  ((repeat refine JC.seq ?_); refine JC.region ?_)
  refine JL.pure rfl rfl ?_
  refine JL.pure rfl rfl ?_
  refine JL.nil ?_
  ((repeat refine Ex.normal_block ?_); refine Ex.next ?_)
  ((repeat refine JC.seq ?_); refine JC.ret ?_)
  (repeat (first | refine Ex.ret_then ?_ | refine Ex.ret_block ?_))
  refine Ex.ret1 rfl (.tmp rfl) ⟨_, rfl, H⟩
end Go.J

namespace Go.J
set_option linter.unusedSimpArgs false
set_option linter.unusedVariables false
def cellsR (g : Grid) (r : List Run) : List Cell × Int := if checkedB g [r] then (cellsAll r, 0) else ([], 2)
end Go.J

namespace Go.J
set_option linter.unusedSimpArgs false
set_option linter.unusedVariables false
open Go.RowKit
/-! ## an int of another kind that an int holds -/
section
variable {P : Program} {N : Sz} {ops : Array Oper} {Q : Exit → Act → World → Prop} {rest : List Oper} {fr : Fr} {w w0 : World} {L : List HP}
  {d : Option Tmp} {ty : TypeId} {pos : String} {af : Array Edge}
end
section
variable {P : Program} {N : Sz} {ops : Array Oper} {Q : Exit → Act → World → Prop} {n : Nat} {es : List Nat} {Ls : Nat → List HP} {w0 : World} {fr0 : Nat → Fr} {Z : Fr → World → Prop}
variable {d : Option Tmp} {ty : TypeId} {pos : String} {af : Array Edge} {r : List Oper} {i : Nat} {ks : List Kn} {L : List HP}
end
end Go.J

namespace Go.J
open Go.RowKit Go.Proofs
set_option maxRecDepth 8000
set_option linter.unusedSimpArgs false
set_option linter.unusedVariables false
theorem cellsRun_bd {r : Run} (h : 0 ≤ r.From ∧ r.To ≤ 256) : (cellsRun r).length ≤ 256 := by rw [cellsRun_len]; omega
theorem cellsAll_bd : ∀ {rs : List Run}, (∀ r ∈ rs, 0 ≤ r.From ∧ r.To ≤ 256) → (cellsAll rs).length ≤ rs.length * 256 := by
  intro rs
  induction rs with
  | nil => intro _; simp [cellsAll]
  | cons r rs ih =>
    intro h
    have h1 := ih fun x hx => h x (List.mem_cons_of_mem _ hx)
    have h2 := cellsRun_bd (h r List.mem_cons_self)
    have h3 : cellsAll (r :: rs) = cellsRun r ++ cellsAll rs := rfl
    rw [h3, List.length_append, List.length_cons]
    omega
theorem cellsR_bd (g : Grid) (r : List Run) : (cellsR g r).1.length ≤ 2097152 := by
  unfold cellsR
  split
  · rename_i hc
    obtain ⟨hg, hall⟩ := checkedB_b hc
    obtain ⟨hW, hH, _, _⟩ := Grid.ok_b hg
    have h1 := right_iff.1 (hall r (by simp))
    have h2 := cellsAll_bd (rs := r) (fun x hx => by have := h1.1.rng x hx; omega)
    have := h1.2
    simp only
    omega
  · simp
theorem cells49_c (g : Grid) (lv rv : Value) (r : List Run) (w : World) (hl : SlR w lv g.land) (hr : SlR w rv r) :
    Calls Try.prog 49 #[g.ev lv, rv] w (fun e w' => ∃ v, e = .returned (.tuple #[v, .int .i64 (cellsR g r).2]) ∧ Own w w' [cellRow v (cellsR g r).1]) := by
  obtain ⟨ra, rc, rfl⟩ := hr.len
  refine calls_J (args := [g.ev lv, .slice ra r.length rc]) Try.func49 rfl Try.ntmps49 rfl ?_
  have H := Own.start w
  ((repeat refine JC.seq ?_); refine JC.region ?_)
  refine JL.box H rfl rfl rfl ?_
  intro b2 w1 H
  refine JL.pure rfl rfl ?_
  refine JL.pure rfl rfl ?_
  refine JL.nil ?_
  ((repeat refine Ex.normal_block ?_); refine Ex.next ?_)
  ((repeat refine JC.seq ?_); refine JC.region ?_)
  refine JL.loadB 0 H rfl sh52 rfl rfl rfl ?_
  refine JL.pure rfl rfl ?_
  refine JL.buildSlice H Try.underlying134 sh50 z50 rfl rfl rfl rfl rfl ?_
  intro b9 w2 H
  refine JL.callP H fb129 rfl rfl (checked_c g lv _ [(.slice ra r.length rc, r)] _ (hl.grow H.below) (H.blkSl1 (j := 0) (ev := Prod.fst) rfl [(.slice ra r.length rc, r)] rfl (by simp)) (by
    have hB := H.below
    intro p hp
    simp only [List.mem_cons, List.not_mem_nil, or_false] at hp
    subst hp
    exact hr.grow hB)) ?_
  intro w3 H _
  refine JL.pure rfl rfl ?_
  refine JL.nil ?_
  ((repeat refine Ex.normal_block ?_); refine Ex.next ?_)
  ((repeat refine JC.seq ?_); refine JC.region ?_)
  refine JL.pure rfl rfl ?_
  refine JL.pure rfl rfl ?_
  refine JL.nil ?_
  ((repeat refine Ex.normal_block ?_); refine Ex.next ?_)
  ((repeat refine JC.seq ?_); refine JC.cond rfl ?_ ?_)
  · intro h12
    (try simp only [Bool.not_eq_true', Bool.not_eq_false', decide_eq_true_eq, decide_eq_false_iff_not] at h12)
    have hok : checkedB g [r] = false := by
      cases hc : checkedB g [r] with
      | false => rfl
      | true => exfalso; simp [hc] at h12
    ((repeat refine JC.seq ?_); refine JC.region ?_)
    refine JL.pure rfl rfl ?_
    refine JL.pure rfl rfl ?_
    refine JL.pure rfl rfl ?_
    refine JL.nil ?_
    ((repeat refine Ex.normal_block ?_); refine Ex.next ?_)
    ((repeat refine JC.seq ?_); refine JC.ret ?_)
    (repeat (first | refine Ex.ret_then ?_ | refine Ex.ret_block ?_))
    refine Ex.ret2 rfl (.tmp rfl) (.tmp rfl) ?_
    unfold cellsR
    rw [hok]
    exact ⟨.slice none 0 0, by simp [hok], (((H.drop 0).drop 0).nilRow 62 2)⟩
  · intro h12
    (try simp only [Bool.not_eq_true', Bool.not_eq_false', decide_eq_true_eq, decide_eq_false_iff_not] at h12)
    have hok : checkedB g [r] = true := by
      cases hc : checkedB g [r] with
      | true => rfl
      | false => exfalso; simp [hc] at h12
    have hce : cellsR g r = (cellsAll r, 0) := by unfold cellsR; rw [if_pos hok]
    have hbd := cellsR_bd g r
    rw [hce] at hbd
    have hca := canon_of_right ((checkedB_b hok).2 r (by simp))
    obtain ⟨hW, hH, _, _⟩ := Grid.ok_b (checkedB_b hok).1
    ((repeat refine JC.seq ?_); refine JC.skip ?_)
    ((repeat refine Ex.normal_block ?_); refine Ex.next ?_)
    ((repeat refine JC.seq ?_); refine JC.region ?_)
    refine JL.pure rfl rfl ?_
    refine JL.call fb139 rfl rfl (cells_c _ ra r.length rc) ?_
    rintro _ w4 ⟨b9, rfl, K⟩
    have H := H.join K
    refine ⟨_, rfl, ?_⟩
    refine JL.call fb138 rfl rfl (collect_c (Rd := fun w => LdAt w b9 0 (false, 1) (.slice ra r.length rc) ∧ b9 < w.heap.size ∧ SlR w (.slice ra r.length rc) r) _ (by kernel_rfl) (fun w0 => cells_iter w0 b9 _ r (tame_right hW.2 hca)) (fun w' hw => ?_) (by simp only at hbd; omega)) ?_
    · have hg := H.get (i := 0) rfl
      have hlt := (Array.getElem?_eq_some_iff.1 hg.2).1
      exact ⟨(LdAt.of_block hg.2 rfl).grow hlt hw, Nat.lt_of_lt_of_le hlt hw.size, hr.grow (H.below.trans (hw.mono H.below.size))⟩
    rintro _ w5 ⟨v, rfl, K⟩
    have H := H.join K
    refine ⟨_, rfl, ?_⟩
    refine JL.pure rfl rfl ?_
    refine JL.pure rfl rfl ?_
    refine JL.nil ?_
    ((repeat refine Ex.normal_block ?_); refine Ex.next ?_)
    ((repeat refine JC.seq ?_); refine JC.ret ?_)
    (repeat (first | refine Ex.ret_then ?_ | refine Ex.ret_block ?_))
    refine Ex.ret2 rfl (.tmp rfl) (.tmp rfl) ?_
    rw [hce]
    exact ⟨_, rfl, ((H.drop 1).drop 1).drop 1⟩
end Go.J

namespace Go.J
set_option linter.unusedSimpArgs false
set_option linter.unusedVariables false
/-! plain: runs that stand right, one by one -/
theorem canon_nil {W H : Int} : Canon W H [] := ⟨by simp, List.Pairwise.nil⟩
/-! plain: the cells of a grid, in order -/
def everyR (W H : Nat) : List Cell := (List.range H).flatMap fun (y : Nat) => (List.range W).map fun (x : Nat) => (⟨x, y⟩ : Cell)
theorem everyR_succ (W H : Nat) : everyR W (H + 1) = everyR W H ++ (List.range W).map fun (x : Nat) => (⟨x, H⟩ : Cell) := by
  unfold everyR; rw [List.range_succ, List.flatMap_append]; simp
theorem everyR_mem {W H : Nat} {c : Cell} : c ∈ everyR W H ↔ (0 ≤ c.X ∧ c.X < W) ∧ 0 ≤ c.Y ∧ c.Y < H := by
  unfold everyR
  rw [List.mem_flatMap]
  constructor
  · rintro ⟨y, hy, h⟩
    obtain ⟨x, hx, rfl⟩ := List.mem_map.1 h
    rw [List.mem_range] at hx hy
    simp only
    omega
  · rintro ⟨h1, h2⟩
    refine ⟨c.Y.toNat, List.mem_range.2 (by omega), List.mem_map.2 ⟨c.X.toNat, List.mem_range.2 (by omega), ?_⟩⟩
    cases c
    simp only [Cell.mk.injEq] at *
    omega
theorem everyR_len (W H : Nat) : (everyR W H).length = W * H := by
  induction H with
  | zero => simp [everyR]
  | succ H ih => rw [everyR_succ, List.length_append, ih]; simp [Nat.mul_succ]
theorem every_inG {g : Grid} (hW : 0 ≤ g.W) (hH : 0 ≤ g.H) {c : Cell} : c ∈ everyR g.W.toNat g.H.toNat ↔ inG g c := by
  rw [everyR_mem]; unfold inG; omega
end Go.J

namespace Go.J
open Go.RowKit Go.Proofs
set_option maxRecDepth 8000
set_option linter.unusedSimpArgs false
set_option linter.unusedVariables false
end Go.J

namespace Go.J
set_option linter.unusedSimpArgs false
set_option linter.unusedVariables false
open Go.RowKit
section
variable {P : Program} {N : Sz} {ops : Array Oper} {Q : Exit → Act → World → Prop} {rest : List Oper} {fr : Fr} {w w0 : World} {L : List HP}
  {d : Option Tmp} {ty : TypeId} {pos : String} {af : Array Edge}
end
end Go.J

namespace Go.J
open Go.RowKit Go.Proofs
set_option maxRecDepth 8000
set_option linter.unusedSimpArgs false
set_option linter.unusedVariables false
theorem nat_mul_bd {a b : Nat} (ha : a ≤ 256) (hb : b ≤ 256) : a * b ≤ 65536 := Nat.mul_le_mul ha hb
def setR (m : List (Cell × Bool)) : Cell → Bool := fun c => (mget m c).getD false
def MapAt (w : World) (β : Nat) (m : List (Cell × Bool)) : Prop := ∃ es clock, MapIs Cell.ev Value.bool es clock m ∧ w.heap[β]? = some (.map es clock)
theorem MapAt.lt {w : World} {β : Nat} {m : List (Cell × Bool)} (h : MapAt w β m) : β < w.heap.size := by
  obtain ⟨_, _, _, h⟩ := h
  exact (Array.getElem?_eq_some_iff.1 h).1
theorem MapAt.grow {w w' : World} {β : Nat} {m : List (Cell × Bool)} (h : MapAt w β m) (hB : Below w.heap.size w w') : MapAt w' β m := by
  have hlt := h.lt
  obtain ⟨es, c, h1, h2⟩ := h
  exact ⟨es, c, h1, by rw [hB.block _ hlt]; exact h2⟩
theorem Own.mapAt {w0 w : World} {L : List HP} (H : Own w0 w L) {i β : Nat} {m : List (Cell × Bool)} (hi : L[i]? = some (setM β m)) : MapAt w β m := by
  obtain ⟨es, clock, hM, H1⟩ := H.openM hi
  exact ⟨es, clock, hM, (H1.get (List.getElem?_set_self (List.getElem?_eq_some_iff.1 hi).1)).2⟩
end Go.J

namespace Go.J
set_option linter.unusedSimpArgs false
set_option linter.unusedVariables false
/-! plain: boxes, discs and half planes as sets of cells -/
def inBox (g : Grid) (lo hi : Spot) (c : Cell) : Prop := c.X * g.S ≤ hi.X ∧ lo.X ≤ c.X * g.S + g.S - 1 ∧ c.Y * g.S ≤ hi.Y ∧ lo.Y ≤ c.Y * g.S + g.S - 1
end Go.J

namespace Go.J
open Go.RowKit Go.Proofs
set_option maxRecDepth 8000
set_option linter.unusedSimpArgs false
set_option linter.unusedVariables false
end Go.J

namespace Go.J
open Go.RowKit Go.Proofs
set_option maxRecDepth 8000
set_option linter.unusedSimpArgs false
set_option linter.unusedVariables false
instance (g : Grid) (lo hi : Spot) (c : Cell) : Decidable (inBox g lo hi c) := by unfold inBox; infer_instance
end Go.J

namespace Go.J
open Go.RowKit Go.Proofs
set_option maxRecDepth 8000
set_option linter.unusedSimpArgs false
set_option linter.unusedVariables false
end Go.J

namespace Go.J
set_option linter.unusedSimpArgs false
set_option linter.unusedVariables false
open Go.RowKit
/-! ## rows that are made before they are filled -/
section
variable {P : Program} {N : Sz} {ops : Array Oper} {Q : Exit → Act → World → Prop} {rest : List Oper} {fr : Fr} {w w0 : World} {L : List HP}
  {d : Option Tmp} {ty : TypeId} {pos : String} {af : Array Edge}
theorem JL.capS {x : Operand} {t e : TypeId} {a0 : Option Addr} {n c : Nat} (hx : fr.ev x = some (.slice a0 n c)) (hu : P.underlying t = some (.slice e)) (hd : Fr.fits N d = true)
    (k : JL P N ops Q rest (fr.put d (.int .i64 c)) w) : JL P N ops Q (⟨d, .call ⟨.builtin .cap, #[x], #[t]⟩, ty, pos, af, none⟩ :: rest) fr w :=
  JL.val rfl hd (fun a H => by
    simp only [execOp, resolve]
    simp [H.eval hx, invoke, builtin, Builtin.cap_, run_underlying hu, goInt]) k
theorem run_append_zeros {P : Program} (w : World) (t u ty e : TypeId) (i : TypeInfo) (z : Value) (ht : P.underlying t = some (.slice e)) (hu : P.underlying u = some (.int .i64)) (hi : P.info? e = some i) (hz : i.zero = some z)
    (n : Nat) (h0 : 0 < n) (hsz : 0 < i.size) (h63 : n ≤ 1000000000) (h48 : n * i.bytes ≤ 140737488355328) :
    (Builtin.append_ #[t, u] ty #[.slice none 0 0, .int .i64 n]).run P w =
      .ok (.slice (some ⟨w.heap.size, 0, none⟩) n (grownCap w n 0 e)) (w.drew.alloc (.cells (Builtin.zeroCells z.cells n ++ Builtin.zeroCells z.cells (grownCap w n 0 e - n)) e)) := by
  have hn : n ≠ 0 := by omega
  have h63' : ¬ (9223372036854775807 < (n : Int)) := by omega
  have h48' : ¬ (281474976710656 < Builtin.nextslicecap n 0 * i.bytes) := by rw [nextslicecap_zero h0]; omega
  have hw : IntKind.i64.wrap (n : Int) = n := w64_id (by unfold In64; omega)
  have hneg : ¬ ((n : Int) < 0) := by omega
  have h48i : ¬ (281474976710656 < (n : Int) * (i.bytes : Int)) := by
    have : ((n * i.bytes : Nat) : Int) ≤ 140737488355328 := by omega
    rw [Int.natCast_mul] at this
    omega
  have hns : ¬ (n = 0 ∨ i.size = 0) := by omega
  simp [Builtin.append_, run_underlying ht, run_underlying hu, sizeOf, typeInfo, zeroValue, hi, hz, asInt, asIntOf, hw, hneg, h48i, Builtin.lenOf, hn, h63', h48', Question.forced, run_firstCells_none, newRow, grownCap, hns]
  intro h
  rcases Nat.mul_eq_zero.1 h with h | h <;> omega
theorem JL.appendZ {s x : Operand} {t u e : TypeId} {sz bytes n : Nat} (H : Own w0 w L) (ht : P.underlying t = some (.slice e)) (hu : P.underlying u = some (.int .i64)) (ha : tyApp P e = some (sz, bytes))
    (hs : fr.ev s = some (.slice none 0 0)) (hx : fr.ev x = some (.int .i64 n)) (h0 : 0 < n) (hb : n * bytes ≤ 140737488355328) (h63 : n ≤ 1000000000) (hd : Fr.fits N d = true)
    (k : ∀ g c cur w', n ≤ c → c ≤ maxLen → cur.size = c * sz → Own w0 w' (blk g (.cells cur e (0, 0)) :: L) → JL P N ops Q rest (fr.put d (.slice (some ⟨g, 0, none⟩) n c)) w') :
    JL P N ops Q (⟨d, .call ⟨.builtin .append, #[s, x], #[t, u]⟩, ty, pos, af, none⟩ :: rest) fr w := by
  unfold tyApp at ha
  split at ha
  · rename_i i hinfo
    split at ha
    · rename_i z hz
      cases hc : (Nat.beq z.cells.size i.size && Nat.ble 1 i.size) with
      | false => rw [hc] at ha; cases ha
      | true =>
        rw [hc] at ha
        cases ha
        simp only [Bool.and_eq_true] at hc
        have hzs := Nat.eq_of_beq_eq_true hc.1
        have hsz := Nat.le_of_ble_eq_true hc.2
        have hr := run_append_zeros (P := P) w t u ty e i z ht hu hinfo hz n h0 (by omega) h63 hb
        have hge := grownCap_ge w n 0 e
        have hcm : grownCap w n 0 e ≤ maxLen := grownCap_le_maxLen w n 0 e (by simp only [maxLen]; omega)
        refine JL.val rfl hd (fun a Ha => ?_) (k w.heap.size (grownCap w n 0 e) (Builtin.zeroCells z.cells n ++ Builtin.zeroCells z.cells (grownCap w n 0 e - n)) _ hge hcm ?_ (H.drew.new _))
        · simp only [execOp, resolve, invoke, builtin, Sem.run_bind, Sem.run_pure, Result.andThen_ok, List.map_toArray, List.map_cons, List.map_nil, Ha.eval hs, Ha.eval hx, hr]
        · simp only [Array.size_append, size_zeroCells, hzs, ← Nat.add_mul]
          congr 1
          omega
    · cases ha
  · cases ha
/-- x[:y], of a slice of ours -/
theorem run_sliceTo {t e : TypeId} {a : Option Addr} {n cap m sz : Nat} {b : Bool} {k : IntKind} (hu : P.underlying t = some (.slice e)) (hs : tySh P e = some (b, sz)) (hm : m ≤ cap) :
    (Instr.slice t (.slice a n cap) none (some (.int k m)) none).run P w = .ok (.slice a m cap) w := by
  have hm' : (m : Int) ≤ (cap : Int) := by omega
  have h0 : ¬ ((m : Int) < 0) := by omega
  simp only [Instr.slice]
  rw [Sem.run_bind, run_underlying hu]
  simp only [Result.andThen]
  cases a with
  | none =>
    simp [Instr.sliceBounds, Instr.sliceBound, asIntOf, hm', h0, (tySh_agg hs w).2, Addr.add]
    exact fun h => absurd h (by omega)
  | some a =>
    simp [Instr.sliceBounds, Instr.sliceBound, asIntOf, hm', h0, (tySh_agg hs w).2, Addr.add]
    exact fun h => absurd h (by omega)
theorem JL.sliceTo {x y : Operand} {t e : TypeId} {a : Option Addr} {n cap m sz : Nat} {b : Bool} {kd : IntKind} (hx : fr.ev x = some (.slice a n cap)) (hy : fr.ev y = some (.int kd m)) (hu : P.underlying t = some (.slice e)) (hs : tySh P e = some (b, sz)) (hm : m ≤ cap) (hd : Fr.fits N d = true)
    (k : JL P N ops Q rest (fr.put d (.slice a m cap)) w) : JL P N ops Q (⟨d, .slice t x none (some y) none, ty, pos, af, none⟩ :: rest) fr w :=
  JL.val rfl hd (fun a H => by
    simp only [execOp, Option.map_some, Option.map_none, H.eval hx, H.eval hy]
    simp only [Instr.sliceAt]
    rw [Sem.run_bind, Sem.run_bind, run_underlying hu]
    simp only [Result.andThen]
    rw [run_sliceTo hu hs hm]
    rfl) k
/-- append of nothing -/
theorem JL.append0 {s x : Operand} {t e : TypeId} {v : Value} {sz bytes n c : Nat} {b : Option Addr} {xs : List Value} (j : Nat) (H : Own w0 w L) (ht : P.underlying t = some (.slice e)) (ha : tyApp P e = some (sz, bytes))
    (hs : fr.ev s = some v) (hx : fr.ev x = some (.slice b 0 c)) (hi : L[j]? = some (row e sz v n xs)) (hd : Fr.fits N d = true)
    (k : JL P N ops Q rest (fr.put d v) w) :
    JL P N ops Q (⟨d, .call ⟨.builtin .append, #[s, x], #[t, t]⟩, ty, pos, af, none⟩ :: rest) fr w := by
  unfold tyApp at ha
  split at ha
  · rename_i i hinfo
    obtain ⟨_, hshape⟩ := H.row_shape hi
    refine JL.val rfl hd (fun a Ha => ?_) k
    have hf : (Builtin.firstCells i.size 0 (.slice b 0 c)).run P w = .ok #[] w := by
      cases b <;> simp [Builtin.firstCells, loadCells, loadCellsFrom]
    rcases hshape with ⟨rfl, rfl⟩ | ⟨g, cap, cur, rfl, hnc, _⟩
    · simp only [execOp, resolve, invoke, builtin, Sem.run_bind, Sem.run_pure, Result.andThen_ok, List.map_toArray, List.map_cons, List.map_nil, Ha.eval hs, Ha.eval hx]
      simp [Builtin.append_, run_underlying ht, sizeOf, typeInfo, hinfo, Builtin.lenOf, hf]
    · simp only [execOp, resolve, invoke, builtin, Sem.run_bind, Sem.run_pure, Result.andThen_ok, List.map_toArray, List.map_cons, List.map_nil, Ha.eval hs, Ha.eval hx]
      simp [Builtin.append_, run_underlying ht, sizeOf, typeInfo, hinfo, Builtin.lenOf, hf, hnc, storeCells]
  · cases ha
end
/-- cells of a slice, flat -/
theorem Sl.flat {α : Type} {enc : α → List Value} {sz : Nat} {w : World} {β off n cap : Nat} {xs : List α} (he : ∀ x, (enc x).length = sz) (h0 : 0 < sz) (h : Sl (fun x => .agg ⟨enc x⟩) (true, sz) w (.slice (some ⟨β, off, none⟩) n cap) xs) :
    ∀ k u, (xs.flatMap enc)[k]? = some u → w.cell? ⟨β, off + k, none⟩ = some u := by
  intro k u hu
  obtain ⟨_, a, c, h2, h3⟩ := h
  cases h2
  have hk : k < (xs.flatMap enc).length := (List.getElem?_eq_some_iff.1 hu).1
  rw [flat_len he] at hk
  rcases h3 with rfl | ⟨β', off', h4, _, h6⟩
  · simp at hk
  · cases h4
    have hi : k / sz < xs.length := Nat.div_lt_of_lt_mul (by rw [Nat.mul_comm]; exact hk)
    have hx : xs[k / sz]? = some xs[k / sz] := by simp [hi]
    obtain ⟨l, e1, e2, e3⟩ := h6 _ _ hx
    cases e1
    have hm : k % sz < sz := Nat.mod_lt _ h0
    have hq := flat_get he hx hm
    have hdm : k / sz * sz + k % sz = k := by rw [Nat.mul_comm]; exact Nat.div_add_mod k sz
    rw [hdm] at hq
    rw [hq] at hu
    have := e3 _ _ hu
    simp only at this
    rwa [show off + k / sz * sz + k % sz = off + k by omega] at this
end Go.J

namespace Go.J
set_option linter.unusedSimpArgs false
set_option linter.unusedVariables false
/-! plain: the cells of one of two, and of one that are not of the other -/
theorem hasB_cons {x : Run} {r : List Run} {c : Cell} : hasB (x :: r) c = true ↔ (x.Y = c.Y ∧ x.From ≤ c.X ∧ c.X < x.To) ∨ hasB r c = true := by
  rw [show x :: r = [x] ++ r from rfl, hasB_append, hasB_one]
theorem hasB_nil {c : Cell} : ¬ hasB [] c = true := by simp [hasB]
theorem othRow_ok {W H y : Int} : ∀ (r : List Run) (a : Int), Canon W H r → (∀ x ∈ r, y ≤ x.Y) → (∀ x ∈ r, x.Y = y → a ≤ x.From) → 0 ≤ a →
    ((∀ s ∈ (othRow W y a r).1, s.Y = y ∧ a ≤ s.From ∧ s.From < s.To ∧ s.To ≤ W) ∧ (othRow W y a r).1.Pairwise (fun r s => r.To < s.From)) ∧
    (∀ x, a ≤ x → (hasB (othRow W y a r).1 ⟨x, y⟩ = true ↔ x < W ∧ ¬ hasB r ⟨x, y⟩ = true)) ∧
    Canon W H (othRow W y a r).2 ∧ (∀ x ∈ (othRow W y a r).2, y + 1 ≤ x.Y) ∧ (∀ c : Cell, y < c.Y → (hasB (othRow W y a r).2 c = true ↔ hasB r c = true)) := by
  have fin : ∀ (r : List Run) (a : Int), (∀ x ∈ r, y < x.Y) → ((∀ s ∈ (if a < W then [(⟨y, a, W⟩ : Run)] else []), s.Y = y ∧ a ≤ s.From ∧ s.From < s.To ∧ s.To ≤ W) ∧ (if a < W then [(⟨y, a, W⟩ : Run)] else []).Pairwise (fun r s => r.To < s.From)) ∧
      (∀ x, a ≤ x → (hasB (if a < W then [(⟨y, a, W⟩ : Run)] else []) ⟨x, y⟩ = true ↔ x < W ∧ ¬ hasB r ⟨x, y⟩ = true)) := by
    intro r a hr
    have hno : ∀ x, ¬ hasB r ⟨x, y⟩ = true := by
      intro x h
      obtain ⟨s, hs, h1, _⟩ := hasB_iff.1 h
      have := hr s hs
      simp only at h1
      omega
    by_cases h : a < W
    · rw [if_pos h]
      refine ⟨⟨?_, by simp⟩, fun x hx => ?_⟩
      · intro s hs
        simp only [List.mem_singleton] at hs
        subst hs
        exact ⟨rfl, Int.le_refl _, h, Int.le_refl _⟩
      · rw [hasB_one]
        simp only [hno, Bool.false_eq_true, not_false_eq_true, and_true, true_and]
        omega
    · rw [if_neg h]
      refine ⟨⟨by simp, by simp⟩, fun x hx => ?_⟩
      constructor
      · intro h'; exact absurd h' hasB_nil
      · intro h'; omega
  intro r
  induction r with
  | nil =>
    intro a hc _ _ h0
    have := fin [] a (by simp)
    unfold othRow
    exact ⟨this.1, this.2, hc, by simp, fun c _ => Iff.rfl⟩
  | cons x r ih =>
    intro a hc hy ha h0
    have hx := hc.rng x List.mem_cons_self
    have hord := List.pairwise_cons.1 hc.ord
    have hct : Canon W H r := ⟨fun z hz => hc.rng z (List.mem_cons_of_mem _ hz), hord.2⟩
    by_cases hxy : x.Y = y
    · rw [othRow, if_pos hxy]
      simp only
      obtain ⟨⟨i1, i2⟩, i3, i4, i5, i6⟩ := ih x.To hct (fun z hz => hy z (List.mem_cons_of_mem _ hz)) (fun z hz hzy => by have := hord.1 z hz; omega) (by omega)
      have hax := ha x List.mem_cons_self hxy
      have hG : ∀ s ∈ (if x.From > a then [(⟨y, a, x.From⟩ : Run)] else []), s = ⟨y, a, x.From⟩ ∧ a < x.From := by
        intro s hs
        split at hs
        · simp only [List.mem_singleton] at hs
          exact ⟨hs, by omega⟩
        · cases hs
      refine ⟨⟨?_, ?_⟩, ?_, i4, i5, ?_⟩
      · intro s hs
        rcases List.mem_append.1 hs with hs | hs
        · obtain ⟨rfl, h⟩ := hG s hs
          exact ⟨rfl, Int.le_refl _, h, by simp only; omega⟩
        · have := i1 s hs
          omega
      · refine List.pairwise_append.2 ⟨?_, i2, ?_⟩
        · split <;> simp
        · intro s hs t ht
          obtain ⟨rfl, h⟩ := hG s hs
          have := i1 t ht
          simp only
          omega
      · intro z hz
        rw [hasB_append, hasB_cons]
        have hg : hasB (if x.From > a then [(⟨y, a, x.From⟩ : Run)] else []) ⟨z, y⟩ = true ↔ z < x.From := by
          split
          · rw [hasB_one]; simp only [true_and]; omega
          · constructor
            · intro h; exact absurd h hasB_nil
            · intro h; omega
        rw [hg]
        simp only
        rcases Int.lt_or_le z x.To with h | h
        · have n1 : ¬ hasB (othRow W y x.To r).1 ⟨z, y⟩ = true := by
            intro h'
            obtain ⟨s, hs, _, h2, _⟩ := hasB_iff.1 h'
            have := i1 s hs
            simp only at h2
            omega
          have n2 : ¬ hasB r ⟨z, y⟩ = true := by
            intro h'
            obtain ⟨s, hs, h1, h2, _⟩ := hasB_iff.1 h'
            have := hord.1 s hs
            simp only at h1 h2
            omega
          simp only [n1, n2, Bool.false_eq_true, or_false]
          omega
        · rw [i3 z h]
          have : ¬ z < x.From := by omega
          have h' : ¬ (x.Y = y ∧ x.From ≤ z ∧ z < x.To) := by omega
          simp only [this, h', false_or]
      · intro c hcy
        rw [i6 c hcy, hasB_cons]
        have : ¬ (x.Y = c.Y ∧ x.From ≤ c.X ∧ c.X < x.To) := by omega
        simp only [this, false_or]
    · rw [othRow, if_neg hxy]
      have h1 := hy x List.mem_cons_self
      have hall : ∀ z ∈ x :: r, y < z.Y := by
        intro z hz
        rcases List.mem_cons.1 hz with rfl | hz
        · omega
        · have := hord.1 z hz; omega
      have := fin (x :: r) a hall
      exact ⟨this.1, this.2, hc, fun z hz => by have := hall z hz; omega, fun c _ => Iff.rfl⟩
theorem othN_ok {W H : Int} {rs : List Run} (hr : Canon W H rs) : ∀ n : Nat, (n : Int) ≤ H → Canon W H (othN W n rs).1 ∧ (∀ s ∈ (othN W n rs).1, s.Y < n) ∧ (∀ c : Cell, 0 ≤ c.X → 0 ≤ c.Y → c.Y < n → (hasB (othN W n rs).1 c = true ↔ c.X < W ∧ ¬ hasB rs c = true)) ∧
    Canon W H (othN W n rs).2 ∧ (∀ x ∈ (othN W n rs).2, (n : Int) ≤ x.Y) ∧ (∀ c : Cell, (n : Int) ≤ c.Y → (hasB (othN W n rs).2 c = true ↔ hasB rs c = true)) := by
  intro n
  induction n with
  | zero =>
    intro _
    refine ⟨canon_nil, by simp [othN], fun c _ h1 h2 => by omega, hr, fun x hx => (hr.rng x hx).1.1, fun c _ => Iff.rfl⟩
  | succ n ih =>
    intro hn
    obtain ⟨a1, a2, a3, a4, a5, a6⟩ := ih (by omega)
    obtain ⟨⟨b1, b2⟩, b3, b4, b5, b6⟩ := othRow_ok (y := (n : Int)) (othN W n rs).2 0 a4 a5 (fun x hx _ => (a4.rng x hx).2.1) (Int.le_refl 0)
    rw [othN]
    simp only
    refine ⟨⟨?_, ?_⟩, ?_, ?_, b4, fun x hx => by have := b5 x hx; omega, fun c hc => ?_⟩
    · intro s hs
      rcases List.mem_append.1 hs with hs | hs
      · exact a1.rng s hs
      · have := b1 s hs; omega
    · refine List.pairwise_append.2 ⟨a1.ord, b2.imp_of_mem (fun {r s} hr hs h => ?_), ?_⟩
      · have := b1 r hr; have := b1 s hs; omega
      · intro r hr s hs
        have := a2 r hr; have := b1 s hs
        omega
    · intro s hs
      rcases List.mem_append.1 hs with hs | hs
      · have := a2 s hs; omega
      · have := b1 s hs; omega
    · intro c h0 h1 h2
      rw [hasB_append]
      rcases Int.lt_or_le c.Y n with h | h
      · have n1 : ¬ hasB (othRow W n 0 (othN W n rs).2).1 c = true := by
          intro h'
          obtain ⟨s, hs, h3, _⟩ := hasB_iff.1 h'
          have := b1 s hs
          omega
        rw [a3 c h0 h1 h]
        simp only [n1, Bool.false_eq_true, or_false]
      · have hcy : c.Y = n := by omega
        have n1 : ¬ hasB (othN W n rs).1 c = true := by
          intro h'
          obtain ⟨s, hs, h3, _⟩ := hasB_iff.1 h'
          have := a2 s hs
          omega
        have hc : c = ⟨c.X, (n : Int)⟩ := by cases c; simp only [Cell.mk.injEq] at *; exact ⟨trivial, hcy⟩
        have := b3 c.X h0
        rw [← hc] at this
        rw [this, a6 c (by omega)]
        simp only [n1, Bool.false_eq_true, false_or]
    · rw [b6 c (by omega), a6 c (by omega)]
theorem others_has {g : Grid} (hg : g.ok = true) {b : List Run} (hb : Canon g.W g.H b) : Canon g.W g.H (othersR g b) ∧ ∀ c, hasB (othersR g b) c = true ↔ inG g c ∧ ¬ hasB b c = true := by
  obtain ⟨hW, hH, _, _⟩ := Grid.ok_b hg
  obtain ⟨a1, a2, a3, _⟩ := othN_ok hb g.H.toNat (by omega)
  refine ⟨a1, fun c => ?_⟩
  constructor
  · intro h
    have hc := canon_inG a1 h
    have hc' := hc
    unfold inG at hc'
    exact ⟨hc, ((a3 c (by omega) (by omega) (by omega)).1 h).2⟩
  · rintro ⟨hc, h⟩
    unfold inG at hc
    exact (a3 c (by omega) (by omega) (by omega)).2 ⟨by omega, h⟩
theorem without_has {g : Grid} (hg : g.ok = true) {a b : List Run} (ha : Canon g.W g.H a) (hb : Canon g.W g.H b) (c : Cell) : hasB (regR (bothT g.W g.H tab0 a (othersR g b))) c = true ↔ hasB a c = true ∧ ¬ hasB b c = true := by
  obtain ⟨h1, h2⟩ := others_has hg hb
  rw [both_has hg ha h1, h2]
  exact and_congr_right fun h => ⟨fun h => h.2, fun h' => ⟨canon_inG ha h, h'⟩⟩
def addAll (g : Grid) (T : Tab) (rs : List Run) : Tab := rs.foldl (fun T r => T.add g.W g.H r.Y r.From r.To) T
theorem addAll_take {g : Grid} {T : Tab} {rs : List Run} {k : Nat} (hk : k < rs.length) : addAll g T (rs.take (k + 1)) = (addAll g T (rs.take k)).add g.W g.H rs[k].Y rs[k].From rs[k].To := by
  unfold addAll; rw [List.take_succ_eq_append_getElem hk, List.foldl_append]; rfl
theorem addAll_good {g : Grid} : ∀ (rs : List Run) {T : Tab} {k : Nat}, Tab.good g.W k T → Tab.good g.W (k + rs.length) (addAll g T rs) := by
  intro rs
  induction rs with
  | nil => intro T k h; exact h
  | cons r rs ih =>
    intro T k h
    have := ih (h.add g.H r.Y r.From r.To)
    rw [List.length_cons, show k + (rs.length + 1) = k + 1 + rs.length by omega]
    exact this
theorem addAll_low {g : Grid} : ∀ (rs : List Run) {T : Tab}, Tab.low g.H T → Tab.low g.H (addAll g T rs) := by
  intro rs
  induction rs with
  | nil => intro T h; exact h
  | cons r rs ih => intro T h; exact ih (h.add _ _ _ _)
theorem addAll_cov {g : Grid} (hH : g.H ≤ 256) (Y : Nat) (x : Int) : ∀ (rs : List Run) (T : Tab) (k : Nat), Tab.good g.W k T → (∀ r ∈ rs, (0 ≤ r.Y ∧ r.Y < g.H) ∧ 0 ≤ r.From ∧ r.To ≤ g.W) → (tabCov (addAll g T rs) Y x ↔ tabCov T Y x ∨ hasB rs ⟨x, Y⟩ = true) := by
  intro rs
  induction rs with
  | nil => intro T k h _; simp [addAll, hasB]
  | cons r rs ih =>
    intro T k h hr
    have h1 := hr r List.mem_cons_self
    have := ih _ _ (h.add g.H r.Y r.From r.To) (fun z hz => hr z (List.mem_cons_of_mem _ hz))
    rw [show addAll g T (r :: rs) = addAll g (T.add g.W g.H r.Y r.From r.To) rs from rfl, this, add_cov h.len hH, hasB_cons, or_assoc]
    refine or_congr_right (or_congr_left ?_)
    simp only
    omega
def eitherR (g : Grid) (a b : List Run) : List Run × Int := if checkedB g [a, b] then regRes (addAll g tab0 (a ++ b)) else ([], 2)
theorem either_has {g : Grid} (hg : g.ok = true) {a b : List Run} (ha : Canon g.W g.H a) (hb : Canon g.W g.H b) (c : Cell) : hasB (regR (addAll g tab0 (a ++ b))) c = true ↔ hasB a c = true ∨ hasB b c = true := by
  obtain ⟨hW, hH, _, _⟩ := Grid.ok_b hg
  have hgd := addAll_good (g := g) (a ++ b) (tab0_good g.W)
  have hr : ∀ r ∈ a ++ b, (0 ≤ r.Y ∧ r.Y < g.H) ∧ 0 ≤ r.From ∧ r.To ≤ g.W := by
    intro r hr
    rcases List.mem_append.1 hr with h | h
    · have := ha.rng r h; omega
    · have := hb.rng r h; omega
  rw [regR_has hgd]
  constructor
  · rintro ⟨h1, h2, h3⟩
    rcases (addAll_cov hH.2 _ _ (a ++ b) tab0 0 (tab0_good g.W) hr).1 h3 with h | h
    · exact absurd h (by simp [tabCov0])
    · rw [show (⟨c.X, ((c.Y.toNat : Nat) : Int)⟩ : Cell) = c by cases c; simp only [Cell.mk.injEq, true_and]; simp only at h1; omega, hasB_append] at h
      exact h
  · intro h
    have hc : inG g c := h.elim (canon_inG ha) (canon_inG hb)
    unfold inG at hc
    refine ⟨by omega, by omega, (addAll_cov hH.2 _ _ (a ++ b) tab0 0 (tab0_good g.W) hr).2 (.inr ?_)⟩
    rw [show (⟨c.X, ((c.Y.toNat : Nat) : Int)⟩ : Cell) = c by cases c; simp only [Cell.mk.injEq, true_and]; simp only at hc; omega, hasB_append]
    exact h
end Go.J

namespace Go.J
open Go.RowKit Go.Proofs
set_option maxRecDepth 8000
set_option linter.unusedSimpArgs false
set_option linter.unusedVariables false
section
variable {P : Program} {N : Sz} {ops : Array Oper} {Q : Exit → Act → World → Prop} {rest : List Oper} {fr : Fr} {w w0 : World} {L : List HP}
  {d : Option Tmp} {ty : TypeId} {pos : String} {af : Array Edge}
/-- append of a slice to a row of ours -/
theorem JL.appendSl {α : Type} {s x : Operand} {t e : TypeId} {v xv : Value} {sz bytes : Nat} {enc : α → List Value} {l0 l : List α} (j : Nat) (H : Own w0 w L) (he : ∀ x, (enc x).length = sz) (h0 : 0 < sz) (ht : P.underlying t = some (.slice e)) (ha : tyApp P e = some (sz, bytes))
    (hs : fr.ev s = some v) (hx : fr.ev x = some xv) (hsl : Sl (fun x => .agg ⟨enc x⟩) (true, sz) w xv l) (hi : L[j]? = some (trow e sz enc v l0)) (h1 : allOne (l.flatMap enc) = true) (hb : (l0.length + l.length) * bytes ≤ 140737488355328)
    (h63 : l0.length + l.length ≤ 9223372036854775807) (hd : Fr.fits N d = true) (k : ∀ v' w', Own w0 w' (L.set j (trow e sz enc v' (l0 ++ l))) → JL P N ops Q rest (fr.put d v') w') :
    JL P N ops Q (⟨d, .call ⟨.builtin .append, #[s, x], #[t, t]⟩, ty, pos, af, none⟩ :: rest) fr w := by
  obtain ⟨hn, a, c, rfl, h⟩ := id hsl
  rcases h with rfl | ⟨β, off, rfl, _, _⟩
  · refine JL.append0 j H ht ha hs hx hi hd (k v w ?_)
    rw [List.append_nil]
    have hjl := (List.getElem?_eq_some_iff.1 hi)
    have : L.set j (trow e sz enc v l0) = L := by
      obtain ⟨h2, h3⟩ := hjl
      rw [← h3]; exact List.set_getElem_self h2
    rw [this]; exact H
  · refine JL.append (news := l.flatMap enc) j H ht ha hs hx hi (flat_len he l) (hsl.flat he h0) h1 hb h63 hd fun v' w' H' => k v' w' ?_
    unfold trow
    rw [List.length_append, List.flatMap_append]
    exact H'
end
theorem allOne_runs : ∀ rs : List Run, allOne (rs.flatMap Run.cs) = true := by
  intro rs
  induction rs with
  | nil => rfl
  | cons r rs ih => rw [List.flatMap_cons]; simp only [Run.cs, List.cons_append, List.nil_append, allOne, ih]; rfl
theorem grow224_c (n : Nat) (w : World) (hn : n ≤ 1000000000) : Calls Try.prog 224 #[.slice none 0 0, .int .i64 n] w (fun e w' => ∃ v, e = .returned v ∧ Own w w' [runRow v []]) := by
  refine calls_J (args := [.slice none 0 0, .int .i64 n]) Try.func224 rfl Try.ntmps224 rfl ?_
  have H := Own.start w
  ((repeat refine JC.seq ?_); refine JC.region ?_)
  refine JL.pure rfl rfl ?_
  refine JL.nil ?_
  ((repeat refine Ex.normal_block ?_); refine Ex.next ?_)
  ((repeat refine JC.seq ?_); refine JC.region ?_)
  refine JL.pure rfl rfl ?_
  refine JL.pure rfl rfl ?_
  refine JL.re 6 rfl (v' := .bool false) (congrArg Value.bool (decide_eq_false (by omega))) ?_
  refine JL.nil ?_
  ((repeat refine Ex.normal_block ?_); refine Ex.next ?_)
  ((repeat refine JC.seq ?_); refine JC.cond rfl (fun h => by cases h) (fun _ => ?_))
  ((repeat refine JC.seq ?_); refine JC.skip ?_)
  ((repeat refine Ex.normal_block ?_); refine Ex.next ?_)
  ((repeat refine JC.seq ?_); refine JC.region ?_)
  refine JL.pure rfl rfl ?_
  refine JL.pure rfl rfl ?_
  refine JL.capS rfl Try.underlying50 rfl ?_
  refine JL.pure rfl rfl ?_
  refine JL.len rfl Try.underlying50 rfl ?_
  refine JL.arith rfl (by unfold In64; omega) rfl ?_
  refine JL.arith rfl (by unfold In64; omega) rfl ?_
  refine JL.re 14 rfl (v' := .int .i64 n) (by congr 1 <;> omega) ?_
  refine JL.pure rfl rfl ?_
  refine JL.nil ?_
  ((repeat refine Ex.normal_block ?_); refine Ex.next ?_)
  ((repeat refine JC.seq ?_); refine JC.region ?_)
  refine JL.pure rfl rfl ?_
  refine JL.pure rfl rfl ?_
  refine JL.nil ?_
  ((repeat refine Ex.normal_block ?_); refine Ex.next ?_)
  ((repeat refine JC.seq ?_); refine JC.cond rfl ?_ ?_)
  · intro h16
    (try simp only [Bool.not_eq_true', Bool.not_eq_false', decide_eq_true_eq, decide_eq_false_iff_not] at h16)
    ((repeat refine JC.seq ?_); refine JC.region ?_)
    refine JL.pure rfl rfl ?_
    refine JL.pure rfl rfl ?_
    refine JL.capS rfl Try.underlying50 rfl ?_
    refine JL.sliceTo (m := 0) rfl rfl Try.underlying50 sh140 (Nat.le_refl _) rfl ?_
    refine JL.pure rfl rfl ?_
    refine JL.appendZ H Try.underlying50 Try.underlying3 ap140 rfl rfl (by omega) (by omega) hn rfl ?_
    intro g c cur w9 hc1 hc2 hc3 H
    refine JL.pure rfl rfl ?_
    refine JL.len rfl Try.underlying50 rfl ?_
    refine JL.sliceTo (m := 0) rfl rfl Try.underlying50 sh140 (Nat.zero_le _) rfl ?_
    refine JL.pure rfl rfl ?_
    refine JL.nil ?_
    ((repeat refine Ex.normal_block ?_); refine Ex.next ?_)
    ((repeat refine JC.seq ?_); refine JC.region ?_)
    refine JL.pure rfl rfl ?_
    refine JL.pure rfl rfl ?_
    refine JL.nil ?_
    ((repeat refine Ex.normal_block ?_); refine Ex.next ?_)
    ((repeat refine JC.seq ?_); refine JC.ret ?_)
    (repeat (first | refine Ex.ret_then ?_ | refine Ex.ret_block ?_))
    refine Ex.ret1 rfl (.tmp rfl) ⟨_, rfl, ?_⟩
    exact H.upd (j := 0) rfl (row_of_blk (n := 0) (xs := []) rfl (Nat.zero_le _) hc2 hc3 (by simp))
  · intro h16
    (try simp only [Bool.not_eq_true', Bool.not_eq_false', decide_eq_true_eq, decide_eq_false_iff_not] at h16)
    ((repeat refine JC.seq ?_); refine JC.skip ?_)
    ((repeat refine Ex.normal_block ?_); refine Ex.next ?_)
    ((repeat refine JC.seq ?_); refine JC.region ?_)
    refine JL.pure rfl rfl ?_
    refine JL.pure rfl rfl ?_
    refine JL.nil ?_
    ((repeat refine Ex.normal_block ?_); refine Ex.next ?_)
    ((repeat refine JC.seq ?_); refine JC.ret ?_)
    (repeat (first | refine Ex.ret_then ?_ | refine Ex.ret_block ?_))
    refine Ex.ret1 rfl (.tmp rfl) ⟨_, rfl, H.nilRow 140 3⟩
def totL (l : List (Value × List Run)) : Nat := (l.flatMap Prod.snd).length
theorem totL_take {l : List (Value × List Run)} {k : Nat} (hk : k < l.length) : totL (l.take (k + 1)) = totL (l.take k) + l[k].2.length := by
  unfold totL; rw [List.take_succ_eq_append_getElem hk, List.flatMap_append]; simp
theorem totL_le (l : List (Value × List Run)) (k : Nat) : totL (l.take k) ≤ totL l := by
  have h : totL (l.take k ++ l.drop k) = totL (l.take k) + totL (l.drop k) := by unfold totL; rw [List.flatMap_append, List.length_append]
  rw [List.take_append_drop] at h
  omega
theorem concat_c (sv : Value) (l : List (Value × List Run)) (w : World) (hs : Sl Prod.fst (false, 1) w sv l) (hr : ∀ p ∈ l, SlR w p.1 p.2) (hn : totL l ≤ 1000000) :
    Calls Try.prog 145 #[sv] w (fun e w' => ∃ v, e = .returned v ∧ Own w w' [runRow v (l.flatMap Prod.snd)]) := by
  obtain ⟨sa, sc, rfl⟩ := hs.len
  refine calls_J (args := [.slice sa l.length sc]) Try.func145 rfl Try.ntmps145 rfl ?_
  have H := Own.start w
  ((repeat refine JC.seq ?_); refine JC.region ?_)
  refine JL.pure rfl rfl ?_
  refine JL.nil ?_
  ((repeat refine Ex.normal_block ?_); refine Ex.next ?_)
  ((repeat refine JC.seq ?_); refine JC.region ?_)
  refine JL.pure rfl rfl ?_
  refine JL.nil ?_
  ((repeat refine Ex.normal_block ?_); refine Ex.next ?_)
  ((repeat refine JC.seq ?_); refine JC.region ?_)
  refine JL.pure rfl rfl ?_
  refine JL.len rfl Try.underlying134 rfl ?_
  refine JL.pure rfl rfl ?_
  refine JL.nil ?_
  ((repeat refine Ex.normal_block ?_); refine Ex.next ?_)
  ((repeat refine JC.seq ?_); refine JC.block ?_)
  ((repeat refine JC.seq ?_); refine JC.loop (ι := Nat) (fun k => [(0, .slice sa l.length sc), (3, .int .i64 (totL (l.take k))), (9, .slice sa l.length sc), (10, .int .i64 l.length), (11, .int .i64 k)])
    (fun k wr => k ≤ l.length ∧ Own w wr []) (fun k => l.length - k) 0 ?_ ?_ ?_)
  · exact ⟨rfl, rfl, rfl, rfl, rfl, trivial⟩
  · exact ⟨Nat.zero_le _, H⟩
  · rintro k wr ⟨hk, H⟩
    ((repeat refine JC.seq ?_); refine JC.region ?_)
    refine JL.pure rfl rfl ?_
    refine JL.nil ?_
    ((repeat refine Ex.normal_block ?_); refine Ex.next ?_)
    ((repeat refine JC.seq ?_); refine JC.cond rfl ?_ ?_)
    · intro h12
      (try simp only [Bool.not_eq_true', Bool.not_eq_false', decide_eq_true_eq, decide_eq_false_iff_not] at h12)
      have h12 : k < l.length := by omega
      have hx : l[k]? = some l[k] := by simp [h12]
      obtain ⟨xa, xc, hxv⟩ := (hr _ (List.getElem_mem h12)).len
      obtain ⟨_, _, _, he1, hs'⟩ := id hs
      cases he1
      obtain ⟨β, off, hsa, hβ, hc⟩ := hs'.resolve_left (by rintro rfl; simp at h12)
      have htk := totL_take h12
      have htl := totL_le l (k + 1)
      ((repeat refine JC.seq ?_); refine JC.skip ?_)
      ((repeat refine Ex.normal_block ?_); refine Ex.next ?_)
      ((repeat refine JC.seq ?_); refine JC.block ?_)
      ((repeat refine JC.seq ?_); refine JC.region ?_)
      refine JL.indexS k (congrArg (fun z => some (Value.slice z l.length sc)) hsa) rfl Try.underlying134 sh50 rfl h12 rfl ?_
      refine JL.load rfl sh50 (by have := (hc k _ hx).grow hβ H.below; rw [hxv] at this; exact this) rfl ?_
      refine JL.pure rfl rfl ?_
      refine JL.nil ?_
      ((repeat refine Ex.normal_block ?_); refine Ex.next ?_)
      ((repeat refine JC.seq ?_); refine JC.region ?_)
      refine JL.pure rfl rfl ?_
      refine JL.pure rfl rfl ?_
      refine JL.len rfl Try.underlying50 rfl ?_
      refine JL.arith rfl (by unfold In64; omega) rfl ?_
      refine JL.pure rfl rfl ?_
      refine JL.nil ?_
      ((repeat refine Ex.normal_block ?_); refine Ex.next ?_)
      ((repeat refine JC.seq ?_); refine JC.region ?_)
      refine JL.pure rfl rfl ?_
      refine JL.pure rfl rfl ?_
      refine JL.re 20 rfl (v' := .bool false) (congrArg Value.bool (decide_eq_false (by omega))) ?_
      refine JL.nil ?_
      ((repeat refine Ex.normal_block ?_); refine Ex.next ?_)
      ((repeat refine JC.seq ?_); refine JC.cond rfl (fun h => by cases h) (fun _ => ?_))
      ((repeat refine JC.seq ?_); refine JC.skip ?_)
      ((repeat refine Ex.normal_block ?_); refine Ex.next ?_)
      ((repeat refine JC.seq ?_); refine JC.region ?_)
      refine JL.arith rfl (by unfold In64; omega) rfl ?_
      refine JL.pure rfl rfl ?_
      refine JL.nil ?_
      (repeat refine Ex.normal_block ?_)
      rw [show ((totL (l.take k) : Nat) : Int) + (l[k].2.length : Int) = ((totL (l.take (k + 1)) : Nat) : Int) by omega]
      exact Ex.again (k + 1) ⟨rfl, rfl, rfl, rfl, rfl, trivial⟩ ⟨h12, H⟩ (by omega)
    · intro h12
      (try simp only [Bool.not_eq_true', Bool.not_eq_false', decide_eq_true_eq, decide_eq_false_iff_not] at h12)
      have hkk : k = l.length := by omega
      subst hkk
      ((repeat refine JC.seq ?_); refine JC.exit ?_)
      (repeat (first | refine Ex.exit_then ?_ | refine Ex.exit_miss (by decide) ?_))
      refine Ex.exit_hit ?_
      ((repeat refine Ex.normal_block ?_); refine Ex.next ?_)
      ((repeat refine JC.seq ?_); refine JC.region ?_)
      refine JL.pure rfl rfl ?_
      refine JL.call fb224 rfl rfl (grow224_c (totL (l.take l.length)) _ (by rw [List.take_length]; omega)) ?_
      rintro _ w1 ⟨gv, rfl, K⟩
      have H := H.join K
      refine ⟨_, rfl, ?_⟩
      refine JL.pure rfl rfl ?_
      refine JL.nil ?_
      ((repeat refine Ex.normal_block ?_); refine Ex.next ?_)
      ((repeat refine JC.seq ?_); refine JC.region ?_)
      refine JL.pure rfl rfl ?_
      refine JL.len rfl Try.underlying134 rfl ?_
      refine JL.pure rfl rfl ?_
      refine JL.nil ?_
      ((repeat refine Ex.normal_block ?_); refine Ex.next ?_)
      ((repeat refine JC.seq ?_); refine JC.block ?_)
      ((repeat refine JC.seq ?_); refine JC.loop (ι := Nat × Value) (fun x => [(0, .slice sa l.length sc), (6, x.2), (25, .slice sa l.length sc), (26, .int .i64 l.length), (27, .int .i64 x.1)])
        (fun x wr => x.1 ≤ l.length ∧ Own w wr [runRow x.2 ((l.take x.1).flatMap Prod.snd)]) (fun x => l.length - x.1) (0, gv) ?_ ?_ ?_)
      · exact ⟨rfl, rfl, rfl, rfl, rfl, trivial⟩
      · exact ⟨Nat.zero_le _, H⟩
      · rintro ⟨k, v⟩ wr ⟨hk, H⟩
        simp only at hk H
        show JC _ _ _ _ [(0, .slice sa l.length sc), (6, v), (25, .slice sa l.length sc), (26, .int .i64 l.length), (27, .int .i64 k)] _
        ((repeat refine JC.seq ?_); refine JC.region ?_)
        refine JL.pure rfl rfl ?_
        refine JL.nil ?_
        ((repeat refine Ex.normal_block ?_); refine Ex.next ?_)
        ((repeat refine JC.seq ?_); refine JC.cond rfl ?_ ?_)
        · intro h28
          (try simp only [Bool.not_eq_true', Bool.not_eq_false', decide_eq_true_eq, decide_eq_false_iff_not] at h28)
          have h28 : k < l.length := by omega
          have hx : l[k]? = some l[k] := by simp [h28]
          obtain ⟨xa, xc, hxv⟩ := (hr _ (List.getElem_mem h28)).len
          obtain ⟨_, _, _, he1, hs'⟩ := id hs
          cases he1
          obtain ⟨β, off, hsa, hβ, hc⟩ := hs'.resolve_left (by rintro rfl; simp at h28)
          have htk := totL_take h28
          have htl := totL_le l (k + 1)
          ((repeat refine JC.seq ?_); refine JC.skip ?_)
          ((repeat refine Ex.normal_block ?_); refine Ex.next ?_)
          ((repeat refine JC.seq ?_); refine JC.block ?_)
          ((repeat refine JC.seq ?_); refine JC.region ?_)
          refine JL.indexS k (congrArg (fun z => some (Value.slice z l.length sc)) hsa) rfl Try.underlying134 sh50 rfl h28 rfl ?_
          refine JL.load rfl sh50 (by have := (hc k _ hx).grow hβ H.below; rw [hxv] at this; exact this) rfl ?_
          refine JL.pure rfl rfl ?_
          refine JL.nil ?_
          ((repeat refine Ex.normal_block ?_); refine Ex.next ?_)
          ((repeat refine JC.seq ?_); refine JC.region ?_)
          refine JL.pure rfl rfl ?_
          refine JL.pure rfl rfl ?_
          unfold totL at htk htl
          refine JL.appendSl (enc := Run.cs) (sz := 3) (bytes := 24) (l0 := (l.take k).flatMap Prod.snd) (l := l[k].2) 0 H (fun _ => rfl) (by omega) Try.underlying50 ap140 rfl rfl (by have := (hr _ (List.getElem_mem h28)).grow H.below; rw [hxv] at this; exact this) rfl (allOne_runs _) (by unfold totL at *; omega) (by unfold totL at *; omega) rfl ?_
          intro v2 w2 H
          refine JL.pure rfl rfl ?_
          refine JL.nil ?_
          ((repeat refine Ex.normal_block ?_); refine Ex.next ?_)
          ((repeat refine JC.seq ?_); refine JC.region ?_)
          refine JL.arith rfl (by unfold In64; omega) rfl ?_
          refine JL.pure rfl rfl ?_
          refine JL.nil ?_
          (repeat refine Ex.normal_block ?_)
          refine Ex.again (k + 1, v2) ⟨rfl, rfl, rfl, rfl, rfl, trivial⟩ ⟨h28, ?_⟩ (by simp only; omega)
          simp only
          rw [List.take_succ_eq_append_getElem h28, List.flatMap_append, show [l[k]].flatMap Prod.snd = l[k].2 by simp]
          exact H
        · intro h28
          (try simp only [Bool.not_eq_true', Bool.not_eq_false', decide_eq_true_eq, decide_eq_false_iff_not] at h28)
          have hkk : k = l.length := by omega
          subst hkk
          rw [List.take_length] at H
          ((repeat refine JC.seq ?_); refine JC.exit ?_)
          (repeat (first | refine Ex.exit_then ?_ | refine Ex.exit_miss (by decide) ?_))
          refine Ex.exit_hit ?_
          ((repeat refine Ex.normal_block ?_); refine Ex.next ?_)
          ((repeat refine JC.seq ?_); refine JC.region ?_)
          refine JL.pure rfl rfl ?_
          refine JL.pure rfl rfl ?_
          refine JL.nil ?_
          ((repeat refine Ex.normal_block ?_); refine Ex.next ?_)
          ((repeat refine JC.seq ?_); refine JC.ret ?_)
          (repeat (first | refine Ex.ret_then ?_ | refine Ex.ret_block ?_))
          refine Ex.ret1 rfl (.tmp rfl) ⟨_, rfl, H⟩
theorem either_c (g : Grid) (lv av bv : Value) (a b : List Run) (w : World) (hl : SlR w lv g.land) (ha : SlR w av a) (hb : SlR w bv b) (hca : capOK av) (hcb : capOK bv) :
    Calls Try.prog 54 #[g.ev lv, av, bv] w (fun e w' => ResR w w' [] (eitherR g a b) e) := by
  obtain ⟨aa, ac, rfl⟩ := ha.len
  obtain ⟨ba, bc, rfl⟩ := hb.len
  refine calls_J (args := [g.ev lv, .slice aa a.length ac, .slice ba b.length bc]) Try.func54 rfl Try.ntmps54 rfl ?_
  have H := Own.start w
  ((repeat refine JC.seq ?_); refine JC.region ?_)
  refine JL.box H rfl rfl rfl ?_
  intro b3 w1 H
  refine JL.pure rfl rfl ?_
  refine JL.pure rfl rfl ?_
  refine JL.nil ?_
  ((repeat refine Ex.normal_block ?_); refine Ex.next ?_)
  ((repeat refine JC.seq ?_); refine JC.region ?_)
  refine JL.loadB 0 H rfl sh52 rfl rfl rfl ?_
  refine JL.pure rfl rfl ?_
  refine JL.pure rfl rfl ?_
  refine JL.buildSlice H Try.underlying134 sh50 z50 rfl rfl rfl rfl rfl ?_
  intro b15 w2 H
  refine JL.callP H fb129 rfl rfl (checked_c g lv _ [(.slice aa a.length ac, a), (.slice ba b.length bc, b)] _ (hl.grow H.below) (H.blkSl1 (j := 0) (ev := Prod.fst) rfl [(.slice aa a.length ac, a), (.slice ba b.length bc, b)] rfl (by simp)) (by
    have hB := H.below
    intro p hp
    simp only [List.mem_cons, List.not_mem_nil, or_false] at hp
    rcases hp with rfl | rfl
    · exact ha.grow hB
    · exact hb.grow hB)) ?_
  intro w3 H _
  refine JL.pure rfl rfl ?_
  refine JL.nil ?_
  ((repeat refine Ex.normal_block ?_); refine Ex.next ?_)
  ((repeat refine JC.seq ?_); refine JC.region ?_)
  refine JL.pure rfl rfl ?_
  refine JL.pure rfl rfl ?_
  refine JL.nil ?_
  ((repeat refine Ex.normal_block ?_); refine Ex.next ?_)
  ((repeat refine JC.seq ?_); refine JC.cond rfl ?_ ?_)
  · intro h18
    (try simp only [Bool.not_eq_true', Bool.not_eq_false', decide_eq_true_eq, decide_eq_false_iff_not] at h18)
    have hok : checkedB g [a, b] = false := by
      cases hc : checkedB g [a, b] with
      | false => rfl
      | true => exfalso; simp [hc] at h18
    ((repeat refine JC.seq ?_); refine JC.region ?_)
    refine JL.pure rfl rfl ?_
    refine JL.pure rfl rfl ?_
    refine JL.pure rfl rfl ?_
    refine JL.nil ?_
    ((repeat refine Ex.normal_block ?_); refine Ex.next ?_)
    ((repeat refine JC.seq ?_); refine JC.ret ?_)
    (repeat (first | refine Ex.ret_then ?_ | refine Ex.ret_block ?_))
    refine Ex.ret2 rfl (.tmp rfl) (.tmp rfl) ?_
    unfold eitherR ResR; rw [hok]
    exact ⟨.slice none 0 0, by simp [hok], (((H.drop 0).drop 0).nilRow 140 3)⟩
  · intro h18
    (try simp only [Bool.not_eq_true', Bool.not_eq_false', decide_eq_true_eq, decide_eq_false_iff_not] at h18)
    have hok : checkedB g [a, b] = true := by
      cases hc : checkedB g [a, b] with
      | true => rfl
      | false => exfalso; simp [hc] at h18
    obtain ⟨hgok, hall⟩ := checkedB_b hok
    obtain ⟨hgW, hgH, hgS, hgl⟩ := Grid.ok_b hgok
    have hal := rightB_len (hall a (by simp))
    have hbl := rightB_len (hall b (by simp))
    have hlen : (a ++ b).length ≤ 16384 := by rw [List.length_append]; omega
    ((repeat refine JC.seq ?_); refine JC.skip ?_)
    ((repeat refine Ex.normal_block ?_); refine Ex.next ?_)
    ((repeat refine JC.seq ?_); refine JC.region ?_)
    refine JL.buildA Try.underlying195 sh193 za195 rfl rfl ?_
    refine JL.box H rfl rfl rfl ?_
    intro b21 w4 H
    have H := H.newT
    refine JL.pure rfl rfl ?_
    refine JL.nil ?_
    ((repeat refine Ex.normal_block ?_); refine Ex.next ?_)
    ((repeat refine JC.seq ?_); refine JC.region ?_)
    refine JL.pure rfl rfl ?_
    refine JL.pure rfl rfl ?_
    refine JL.buildSlice H Try.underlying134 sh50 z50 rfl rfl rfl rfl rfl ?_
    intro b24 w5 H
    refine JL.call fb145 rfl rfl (concat_c _ [(.slice aa a.length ac, a), (.slice ba b.length bc, b)] _ (H.blkSl1 (j := 0) (ev := Prod.fst) rfl [(.slice aa a.length ac, a), (.slice ba b.length bc, b)] rfl (by simp)) (by
      have hB := H.below
      intro p hp
      simp only [List.mem_cons, List.not_mem_nil, or_false] at hp
      rcases hp with rfl | rfl
      · exact ha.grow hB
      · exact hb.grow hB) (by unfold totL; simp at hlen ⊢; omega)) ?_
    rintro _ w6 ⟨cv, rfl, K⟩
    replace K : Own _ _ [runRow cv (a ++ b)] := K.cast (by simp)
    generalize hrs : a ++ b = rs at K hlen
    obtain ⟨ca, cc, rfl⟩ := K.row_slice (j := 0) rfl
    have H := H.join K
    refine ⟨_, rfl, ?_⟩
    refine JL.len rfl Try.underlying50 rfl ?_
    refine JL.pure rfl rfl ?_
    refine JL.nil ?_
    ((repeat refine Ex.normal_block ?_); refine Ex.next ?_)
    ((repeat refine JC.seq ?_); refine JC.block ?_)
    ((repeat refine JC.seq ?_); refine JC.loop (ι := Nat) (fun k => [(3, .pointer (some ⟨b3, 0, none⟩)), (9, .pointer (some ⟨b21, 0, none⟩)), (25, .slice ca rs.length cc), (26, .int .i64 rs.length), (27, .int .i64 k)])
      (fun k wr => k ≤ rs.length ∧ Own w wr [tbl b21 (addAll g tab0 (rs.take k)), runRow (.slice ca rs.length cc) rs, blk b3 (.cells ⟨[.int .i64 g.W, .int .i64 g.H, .int .i64 g.S, lv]⟩ 52 (0, 0))]) (fun k => rs.length - k) 0 ?_ ?_ ?_)
    · exact ⟨rfl, rfl, rfl, rfl, rfl, trivial⟩
    · exact ⟨Nat.zero_le _, ((H.drop 1).drop 2).perm (List.Perm.swap _ _ _)⟩
    · rintro k wr ⟨hk, H⟩
      have hgd := addAll_good (g := g) (rs.take k) (tab0_good g.W)
      ((repeat refine JC.seq ?_); refine JC.region ?_)
      refine JL.pure rfl rfl ?_
      refine JL.nil ?_
      ((repeat refine Ex.normal_block ?_); refine Ex.next ?_)
      ((repeat refine JC.seq ?_); refine JC.cond rfl ?_ ?_)
      · intro h28
        (try simp only [Bool.not_eq_true', Bool.not_eq_false', decide_eq_true_eq, decide_eq_false_iff_not] at h28)
        have h28 : k < rs.length := by omega
        have hx : rs[k]? = some rs[k] := by simp [h28]
        obtain ⟨g2, c2, hg2, _, _, _⟩ := H.rowAt (j := 1) (e := 140) (sz := 3) (enc := Run.cs) (fun _ => rfl) rfl hx
        simp only [Value.slice.injEq] at hg2
        obtain ⟨rfl, _, rfl⟩ := hg2
        have hkl : (rs.take k).length ≤ 16384 := by rw [List.length_take]; omega
        ((repeat refine JC.seq ?_); refine JC.skip ?_)
        ((repeat refine Ex.normal_block ?_); refine Ex.next ?_)
        ((repeat refine JC.seq ?_); refine JC.block ?_)
        ((repeat refine JC.seq ?_); refine JC.region ?_)
        refine JL.indexS k rfl rfl Try.underlying50 sh140 rfl h28 rfl ?_
        refine JL.load rfl sh140 (H.rowLd (j := 1) (e := 140) (sz := 3) (enc := Run.cs) (fun _ => rfl) rfl hx) rfl ?_
        refine JL.alloc H z140 rfl ?_
        intro b11 w7 H
        refine JL.storeB 0 H rfl rfl sh140 rfl rfl rfl rfl rfl ?_
        intro w8 H
        refine JL.nil ?_
        ((repeat refine Ex.normal_block ?_); refine Ex.next ?_)
        ((repeat refine JC.seq ?_); refine JC.region ?_)
        refine JL.pure rfl rfl ?_
        refine JL.loadB 3 H rfl sh52 rfl rfl rfl ?_
        refine JL.fieldAddr rfl Try.underlying140 rfl sh3 rfl ?_
        refine JL.loadB 0 H rfl sh3 rfl rfl rfl ?_
        refine JL.fieldAddr rfl Try.underlying140 rfl sh3 rfl ?_
        refine JL.loadB 0 H rfl sh3 rfl rfl rfl ?_
        refine JL.fieldAddr rfl Try.underlying140 rfl sh3 rfl ?_
        refine JL.loadB 0 H rfl sh3 rfl rfl rfl ?_
        refine JL.call fb134 rfl rfl (add_c (H.perm (List.Perm.swap _ _ _)) _ _ _ _ _ _ _ hgH hgW.2 (fun l hl => by have := hgd.le l hl; omega)) ?_
        rintro _ w9 ⟨rfl, H⟩
        refine ⟨_, rfl, ?_⟩
        refine JL.nil ?_
        ((repeat refine Ex.normal_block ?_); refine Ex.next ?_)
        ((repeat refine JC.seq ?_); refine JC.region ?_)
        refine JL.arith rfl (by unfold In64; omega) rfl ?_
        refine JL.pure rfl rfl ?_
        refine JL.nil ?_
        (repeat refine Ex.normal_block ?_)
        rw [← addAll_take h28] at H
        exact Ex.again (k + 1) ⟨rfl, rfl, rfl, rfl, rfl, trivial⟩ ⟨h28, H.drop 1⟩ (by omega)
      · intro h28
        (try simp only [Bool.not_eq_true', Bool.not_eq_false', decide_eq_true_eq, decide_eq_false_iff_not] at h28)
        have hkk : k = rs.length := by omega
        subst hkk
        rw [List.take_length] at H hgd
        ((repeat refine JC.seq ?_); refine JC.exit ?_)
        (repeat (first | refine Ex.exit_then ?_ | refine Ex.exit_miss (by decide) ?_))
        refine Ex.exit_hit ?_
        ((repeat refine Ex.normal_block ?_); refine Ex.next ?_)
        ((repeat refine JC.seq ?_); refine JC.region ?_)
        refine JL.pure rfl rfl ?_
        refine JL.call fb131 rfl rfl (region_c2 H hgd (by omega) hgW.2) ?_
        rintro _ w10 ⟨rv, rfl, H⟩
        refine ⟨_, rfl, ?_⟩
        refine JL.pure rfl rfl ?_
        refine JL.pure rfl rfl ?_
        refine JL.pure rfl rfl ?_
        refine JL.pure rfl rfl ?_
        refine JL.nil ?_
        ((repeat refine Ex.normal_block ?_); refine Ex.next ?_)
        ((repeat refine JC.seq ?_); refine JC.ret ?_)
        (repeat (first | refine Ex.ret_then ?_ | refine Ex.ret_block ?_))
        refine Ex.ret2 rfl (.tmp rfl) (.tmp rfl) ?_
        unfold eitherR; rw [hok, hrs]
        exact ⟨_, rfl, (H.drop 1).drop 1⟩
end Go.J

namespace Go.J
open Go.RowKit Go.Proofs
set_option maxRecDepth 8000
set_option linter.unusedSimpArgs false
set_option linter.unusedVariables false
def twoB (n : Int) (x y : Bool) : Bool := decide (n = 0) && (x || y) || decide (n = 1) && x && y || decide (n = 2) && x && !y
def twoR (n : Int) (g : Grid) (a b : List Run) : List Run × Int := if checkedB g [a, b] then runsR g (fun c => twoB n (hasB a c) (hasB b c)) else ([], 2)
end Go.J

namespace Go.J
set_option linter.unusedSimpArgs false
set_option linter.unusedVariables false
theorem eitherR_two (g : Grid) (a b : List Run) : eitherR g a b = twoR 0 g a b := by
  unfold eitherR twoR
  cases hc : checkedB g [a, b] with
  | false => rfl
  | true =>
    simp only [if_true]
    obtain ⟨hg, hall⟩ := checkedB_b hc
    obtain ⟨hW, hH, _, _⟩ := Grid.ok_b hg
    have ha := canon_of_right (hall a (by simp))
    have hb := canon_of_right (hall b (by simp))
    refine regRes_runs (by omega) (by omega) (addAll_good (a ++ b) (tab0_good g.W)) (addAll_low _ (tab0_low _)) _ fun c => ?_
    rw [either_has hg ha hb]
    have : twoB 0 (hasB a c) (hasB b c) = true ↔ hasB a c = true ∨ hasB b c = true := by unfold twoB; simp
    rw [this]
    exact ⟨fun h => ⟨h.elim (canon_inG ha) (canon_inG hb), h⟩, fun h => h.2⟩
theorem bothR_two (g : Grid) (a b : List Run) : bothR g a b = twoR 1 g a b := by
  unfold bothR twoR
  cases hc : checkedB g [a, b] with
  | false => rfl
  | true =>
    simp only [if_true]
    obtain ⟨hg, hall⟩ := checkedB_b hc
    obtain ⟨hW, hH, _, _⟩ := Grid.ok_b hg
    have ha := canon_of_right (hall a (by simp))
    have hb := canon_of_right (hall b (by simp))
    refine regRes_runs (by omega) (by omega) (bothT_good g a b) (bothN_low _ _ _ _ (tab0_low _)) _ fun c => ?_
    rw [both_has hg ha hb]
    have : twoB 1 (hasB a c) (hasB b c) = true ↔ hasB a c = true ∧ hasB b c = true := by unfold twoB; simp
    rw [this]
    exact ⟨fun h => ⟨canon_inG ha h.1, h⟩, fun h => h.2⟩
theorem withoutR_two (g : Grid) (a b : List Run) : withoutR g a b = twoR 2 g a b := by
  unfold withoutR twoR
  cases hc : checkedB g [a, b] with
  | false => rfl
  | true =>
    simp only [if_true]
    obtain ⟨hg, hall⟩ := checkedB_b hc
    obtain ⟨hW, hH, _, _⟩ := Grid.ok_b hg
    have ha := canon_of_right (hall a (by simp))
    have hb := canon_of_right (hall b (by simp))
    refine regRes_runs (by omega) (by omega) (bothT_good g a (othersR g b)) (bothN_low _ _ _ _ (tab0_low _)) _ fun c => ?_
    rw [without_has hg ha hb]
    have : twoB 2 (hasB a c) (hasB b c) = true ↔ hasB a c = true ∧ ¬ hasB b c = true := by unfold twoB; simp
    rw [this]
    exact ⟨fun h => ⟨canon_inG ha h.1, h⟩, fun h => h.2⟩
end Go.J

namespace Go.J
open Go.RowKit Go.Proofs
set_option maxRecDepth 8000
set_option linter.unusedSimpArgs false
set_option linter.unusedVariables false
theorem twoR_len (n : Int) (g : Grid) (a b : List Run) : (twoR n g a b).1.length ≤ 8192 := by
  unfold twoR runsR
  split
  · split
    · simp
    · simp only; omega
  · simp
end Go.J

namespace Go.J
set_option linter.unusedSimpArgs false
set_option linter.unusedVariables false
/-! plain: how many cells there are, and what a region's cells make -/
def countR (rs : List Run) : Int := (rs.map fun r => max r.From r.To - r.From).sum
theorem countR_cells {W H : Int} {rs : List Run} (h : Canon W H rs) : countR rs = (cellsAll rs).length := by
  induction rs with
  | nil => rfl
  | cons r rs ih =>
    have h1 := h.rng r List.mem_cons_self
    have h2 := ih ⟨fun x hx => h.rng x (List.mem_cons_of_mem _ hx), (List.pairwise_cons.1 h.ord).2⟩
    have h3 : countR (r :: rs) = (max r.From r.To - r.From) + countR rs := by unfold countR; simp
    have h4 : cellsAll (r :: rs) = cellsRun r ++ cellsAll rs := rfl
    rw [h3, h4, List.length_append, cellsRun_len, h2]
    omega
theorem range_map_nodup {α : Type} (f : Nat → α) (h : ∀ a b, f a = f b → a = b) (n : Nat) : ((List.range n).map f).Nodup := by
  unfold List.Nodup
  rw [List.pairwise_map]
  exact List.nodup_range.imp fun {a b} hab e => hab (h a b e)
theorem cellsRun_nodup (r : Run) : (cellsRun r).Nodup := range_map_nodup _ (fun a b e => by simp only [Cell.mk.injEq] at e; omega) _
theorem cellsAll_nodup {W H : Int} {rs : List Run} (h : Canon W H rs) : (cellsAll rs).Nodup := by
  unfold cellsAll List.Nodup
  rw [List.pairwise_flatMap]
  refine ⟨fun r _ => cellsRun_nodup r, h.ord.imp fun {a b} hab x hx y hy e => ?_⟩
  subst e
  rw [mem_cellsRun] at hx hy
  omega
theorem everyR_nodup (W H : Nat) : (everyR W H).Nodup := by
  unfold everyR List.Nodup
  rw [List.pairwise_flatMap]
  refine ⟨fun y _ => range_map_nodup _ (fun a b e => by simp only [Cell.mk.injEq] at e; omega) _, List.nodup_range.imp fun {a b} hab x hx y hy e => ?_⟩
  subst e
  obtain ⟨i, _, rfl⟩ := List.mem_map.1 hx
  obtain ⟨j, _, e⟩ := List.mem_map.1 hy
  simp only [Cell.mk.injEq] at e
  omega
theorem countR_every {g : Grid} (hg : g.ok = true) {rs : List Run} (h : Canon g.W g.H rs) : countR rs = (everyR g.W.toNat g.H.toNat).countP (hasB rs) := by
  obtain ⟨hW, hH, _, _⟩ := Grid.ok_b hg
  rw [countR_cells h, List.countP_eq_length_filter]
  have : (cellsAll rs).Perm ((everyR g.W.toNat g.H.toNat).filter (hasB rs)) := (List.perm_ext_iff_of_nodup (cellsAll_nodup h) ((everyR_nodup _ _).filter _)).2 fun c => by
    rw [mem_cellsAll, List.mem_filter, every_inG (by omega) (by omega)]
    exact ⟨fun h' => ⟨canon_inG h h', h'⟩, fun h' => h'.2⟩
  rw [this.length_eq]
def c2r (c : Cell) : Run := ⟨c.Y, c.X, c.X + 1⟩
theorem hasB_c2r {l : List Cell} {c : Cell} : hasB (l.map c2r) c = true ↔ c ∈ l := by
  rw [hasB_iff]
  constructor
  · rintro ⟨r, hr, h1, h2, h3⟩
    obtain ⟨d, hd, rfl⟩ := List.mem_map.1 hr
    unfold c2r at h1 h2 h3
    simp only at h1 h2 h3
    have : c = d := by cases c; cases d; simp only [Cell.mk.injEq] at *; omega
    rw [this]; exact hd
  · intro h
    exact ⟨c2r c, List.mem_map.2 ⟨c, h, rfl⟩, rfl, Int.le_refl _, by unfold c2r; simp only; omega⟩
end Go.J

namespace Go.J
set_option linter.unusedSimpArgs false
set_option linter.unusedVariables false
instance (g : Grid) (c : Cell) : Decidable (inG g c) := by unfold inG; infer_instance
structure BoolOk (g : Grid) (a b : List Run) (E B W S : List Run × Int) : Prop where
  ok : g.ok = true
  ca : Canon g.W g.H a
  cb : Canon g.W g.H b
  e0 : E.2 = 0
  b0 : B.2 = 0
  w0 : W.2 = 0
  se0 : S.2 = 0
  c0 : cellsR g a = (cellsAll a, 0)
  reg : regRes (addAll g tab0 ((cellsAll a).map c2r)) = (a, 0)
  len : ((cellsAll a).length : Int) = countR a
  re : rightB g.W g.H E.1 = true
  rb : rightB g.W g.H B.1 = true
  rw : rightB g.W g.H W.1 = true
  eh : ∀ c, hasB E.1 c = (hasB a c || hasB b c)
  bh : ∀ c, hasB B.1 c = (hasB a c && hasB b c)
  wh : ∀ c, hasB W.1 c = (hasB a c && !hasB b c)
  sh : ∀ c, hasB S.1 c = (decide (inG g c) && !hasB g.land c)
  n1 : countR E.1 + countR B.1 = countR a + countR b
  n2 : countR W.1 = countR a - countR B.1
  cells : ∀ c ∈ cellsAll a, inG g c
  clen : (cellsAll a).length ≤ 65536
end Go.J

namespace Go.J
open Go.RowKit Go.Proofs
set_option maxRecDepth 8000
set_option linter.unusedSimpArgs false
set_option linter.unusedVariables false
theorem Tame.take {rs : List Run} (h : Tame rs) (k : Nat) : Tame (rs.take k) := fun r hr => h r (List.mem_of_mem_take hr)
theorem checkRegion_c (g : Grid) (lv rv : Value) (r : List Run) (w : World) (hl : SlR w lv g.land) (hr : SlR w rv r) : Pur Try.prog 100 #[g.ev lv, rv] w (.int .i64 (if checkedB g [r] then 0 else 2)) := by
  obtain ⟨ra, rc, rfl⟩ := hr.len
  refine pur_J (args := [g.ev lv, .slice ra r.length rc]) Try.func100 rfl Try.ntmps100 rfl ?_
  have H := Own.start w
  ((repeat refine JC.seq ?_); refine JC.region ?_)
  refine JL.box H rfl rfl rfl ?_
  intro b2 w1 H
  refine JL.pure rfl rfl ?_
  refine JL.nil ?_
  ((repeat refine Ex.normal_block ?_); refine Ex.next ?_)
  ((repeat refine JC.seq ?_); refine JC.region ?_)
  refine JL.loadB 0 H rfl sh52 rfl rfl rfl ?_
  refine JL.pure rfl rfl ?_
  refine JL.buildSlice H Try.underlying134 sh50 z50 rfl rfl rfl rfl rfl ?_
  intro b7 w2 H
  refine JL.callP H fb129 rfl rfl (checked_c g lv _ [(.slice ra r.length rc, r)] _ (hl.grow H.below) (H.blkSl1 (j := 0) (ev := Prod.fst) rfl [(.slice ra r.length rc, r)] rfl (by simp)) (by
    have hB := H.below
    intro p hp
    simp only [List.mem_cons, List.not_mem_nil, or_false] at hp
    subst hp
    exact hr.grow hB)) ?_
  intro w3 H _
  refine JL.pure rfl rfl ?_
  refine JL.nil ?_
  ((repeat refine Ex.normal_block ?_); refine Ex.next ?_)
  ((repeat refine JC.seq ?_); refine JC.ret ?_)
  (repeat (first | refine Ex.ret_then ?_ | refine Ex.ret_block ?_))
  refine Ex.ret1 rfl (.tmp rfl) ⟨rfl, H.below⟩
theorem region99_c (g : Grid) (lv cv : Value) (l : List Cell) (w : World) (hl : SlR w lv g.land) (hcl : Sl Cell.ev (true, 2) w cv l) (hg : g.ok = true) (hin : ∀ c ∈ l, inG g c) (hlen : l.length ≤ 65536) :
    Calls Try.prog 99 #[g.ev lv, cv] w (fun e w' => ResR w w' [] (regRes (addAll g tab0 (l.map c2r))) e) := by
  obtain ⟨hgW, hgH, hgS, _⟩ := Grid.ok_b hg
  obtain ⟨ca, cc, rfl⟩ := hcl.len
  refine calls_J (args := [g.ev lv, .slice ca l.length cc]) Try.func99 rfl Try.ntmps99 rfl ?_
  have H := Own.start w
  ((repeat refine JC.seq ?_); refine JC.region ?_)
  refine JL.box H rfl rfl rfl ?_
  intro b2 w1 H
  refine JL.pure rfl rfl ?_
  refine JL.pure rfl rfl ?_
  refine JL.nil ?_
  ((repeat refine Ex.normal_block ?_); refine Ex.next ?_)
  ((repeat refine JC.seq ?_); refine JC.region ?_)
  refine JL.pure rfl rfl ?_
  refine JL.len rfl Try.underlying68 rfl ?_
  refine JL.pure rfl rfl ?_
  refine JL.re 12 rfl (v' := .bool false) (congrArg Value.bool (decide_eq_false (by omega))) ?_
  refine JL.nil ?_
  ((repeat refine Ex.normal_block ?_); refine Ex.next ?_)
  ((repeat refine JC.seq ?_); refine JC.cond rfl (fun h => by cases h) (fun _ => ?_))
  ((repeat refine JC.seq ?_); refine JC.skip ?_)
  ((repeat refine Ex.normal_block ?_); refine Ex.next ?_)
  ((repeat refine JC.seq ?_); refine JC.region ?_)
  refine JL.loadB 0 H rfl sh52 rfl rfl rfl ?_
  refine JL.callP H fb141 rfl rfl (v := .int .i64 0) (by have := checkGrid_c g lv _ (hl.grow H.below); rw [hg] at this; exact this) ?_
  intro w2 H _
  refine JL.pure rfl rfl ?_
  refine JL.nil ?_
  ((repeat refine Ex.normal_block ?_); refine Ex.next ?_)
  ((repeat refine JC.seq ?_); refine JC.region ?_)
  refine JL.pure rfl rfl ?_
  refine JL.pure rfl rfl ?_
  refine JL.re 16 rfl (v' := .bool false) rfl ?_
  refine JL.nil ?_
  ((repeat refine Ex.normal_block ?_); refine Ex.next ?_)
  ((repeat refine JC.seq ?_); refine JC.cond rfl (fun h => by cases h) (fun _ => ?_))
  ((repeat refine JC.seq ?_); refine JC.skip ?_)
  ((repeat refine Ex.normal_block ?_); refine Ex.next ?_)
  ((repeat refine JC.seq ?_); refine JC.region ?_)
  refine JL.buildA Try.underlying195 sh193 za195 rfl rfl ?_
  refine JL.box H rfl rfl rfl ?_
  intro b19 w3 H
  have H := H.newT
  refine JL.pure rfl rfl ?_
  refine JL.nil ?_
  ((repeat refine Ex.normal_block ?_); refine Ex.next ?_)
  ((repeat refine JC.seq ?_); refine JC.region ?_)
  refine JL.pure rfl rfl ?_
  refine JL.len rfl Try.underlying68 rfl ?_
  refine JL.pure rfl rfl ?_
  refine JL.nil ?_
  ((repeat refine Ex.normal_block ?_); refine Ex.next ?_)
  ((repeat refine JC.seq ?_); refine JC.block ?_)
  ((repeat refine JC.seq ?_); refine JC.loop (ι := Nat) (fun k => [(2, .pointer (some ⟨b2, 0, none⟩)), (7, .pointer (some ⟨b19, 0, none⟩)), (20, .slice ca l.length cc), (21, .int .i64 l.length), (22, .int .i64 k)])
    (fun k wr => k ≤ l.length ∧ Own w wr [tbl b19 (addAll g tab0 ((l.map c2r).take k)), blk b2 (.cells ⟨[.int .i64 g.W, .int .i64 g.H, .int .i64 g.S, lv]⟩ 52 (0, 0))]) (fun k => l.length - k) 0 ?_ ?_ ?_)
  · exact ⟨rfl, rfl, rfl, rfl, rfl, trivial⟩
  · exact ⟨Nat.zero_le _, H⟩
  · rintro k wr ⟨hk, H⟩
    have hgd := addAll_good (g := g) ((l.map c2r).take k) (tab0_good g.W)
    have hkl : ((l.map c2r).take k).length ≤ 65536 := by rw [List.length_take, List.length_map]; omega
    ((repeat refine JC.seq ?_); refine JC.region ?_)
    refine JL.pure rfl rfl ?_
    refine JL.nil ?_
    ((repeat refine Ex.normal_block ?_); refine Ex.next ?_)
    ((repeat refine JC.seq ?_); refine JC.cond rfl ?_ ?_)
    · intro h23
      (try simp only [Bool.not_eq_true', Bool.not_eq_false', decide_eq_true_eq, decide_eq_false_iff_not] at h23)
      have h23 : k < l.length := by omega
      obtain ⟨_, _, _, he1, ha⟩ := id hcl
      cases he1
      obtain ⟨βr, off, hca, hβ, hc⟩ := ha.resolve_left (by rintro rfl; simp at h23)
      have hx : l[k]? = some l[k] := by simp [h23]
      have hi := hin _ (List.getElem_mem h23)
      unfold inG at hi
      ((repeat refine JC.seq ?_); refine JC.skip ?_)
      ((repeat refine Ex.normal_block ?_); refine Ex.next ?_)
      ((repeat refine JC.seq ?_); refine JC.block ?_)
      ((repeat refine JC.seq ?_); refine JC.region ?_)
      refine JL.indexS k (congrArg (fun z => some (Value.slice z l.length cc)) hca) rfl Try.underlying68 sh62 rfl h23 rfl ?_
      refine JL.load rfl sh62 ((hc k _ hx).grow hβ H.below) rfl ?_
      refine JL.alloc H z62 rfl ?_
      intro b9 w4 H
      refine JL.storeB 0 H rfl rfl sh62 rfl rfl rfl rfl rfl ?_
      intro w5 H
      refine JL.nil ?_
      ((repeat refine Ex.normal_block ?_); refine Ex.next ?_)
      ((repeat refine JC.seq ?_); refine JC.region ?_)
      refine JL.fieldAddr rfl Try.underlying62 rfl sh3 rfl ?_
      refine JL.loadB 0 H rfl sh3 rfl rfl rfl ?_
      refine JL.fieldAddr rfl Try.underlying52 rfl sh3 rfl ?_
      refine JL.loadB 2 H rfl sh3 rfl rfl rfl ?_
      refine JL.arith rfl (by unfold In64; omega) rfl ?_
      refine JL.callP H fb144 rfl rfl (within_c _ _ _ _) ?_
      intro w6 H _
      refine JL.re 31 rfl (v' := .bool true) (by simp; omega) ?_
      refine JL.pure rfl rfl ?_
      refine JL.pure rfl rfl ?_
      refine JL.want rfl rfl ?_
      refine JL.fieldAddr rfl Try.underlying62 rfl sh3 rfl ?_
      refine JL.want rfl rfl ?_
      refine JL.loadB 0 H rfl sh3 rfl rfl rfl ?_
      refine JL.want rfl rfl ?_
      refine JL.fieldAddr rfl Try.underlying52 rfl sh3 rfl ?_
      refine JL.want rfl rfl ?_
      refine JL.loadB 2 H rfl sh3 rfl rfl rfl ?_
      refine JL.want rfl rfl ?_
      refine JL.arith rfl (by unfold In64; omega) rfl ?_
      refine JL.want rfl rfl ?_
      refine JL.callP H fb144 rfl rfl (within_c _ _ _ _) ?_
      intro w7 H _
      refine JL.re 39 rfl (v' := .bool true) (by simp; omega) ?_
      refine JL.want rfl rfl ?_
      refine JL.pure rfl rfl ?_
      refine JL.pure rfl rfl ?_
      refine JL.nil ?_
      ((repeat refine Ex.normal_block ?_); refine Ex.next ?_)
      ((repeat refine JC.seq ?_); refine JC.cond rfl (fun h => by cases h) (fun _ => ?_))
      ((repeat refine JC.seq ?_); refine JC.skip ?_)
      ((repeat refine Ex.normal_block ?_); refine Ex.next ?_)
      ((repeat refine JC.seq ?_); refine JC.region ?_)
      refine JL.pure rfl rfl ?_
      refine JL.loadB 2 H rfl sh52 rfl rfl rfl ?_
      refine JL.fieldAddr rfl Try.underlying62 rfl sh3 rfl ?_
      refine JL.loadB 0 H rfl sh3 rfl rfl rfl ?_
      refine JL.fieldAddr rfl Try.underlying62 rfl sh3 rfl ?_
      refine JL.loadB 0 H rfl sh3 rfl rfl rfl ?_
      refine JL.fieldAddr rfl Try.underlying62 rfl sh3 rfl ?_
      refine JL.loadB 0 H rfl sh3 rfl rfl rfl ?_
      refine JL.arith rfl (by unfold In64; omega) rfl ?_
      refine JL.call fb134 rfl rfl (add_c (H.perm (List.Perm.swap _ _ _)) _ _ _ _ _ _ _ hgH hgW.2 (fun l hl => by have := hgd.le l hl; omega)) ?_
      rintro _ w8 ⟨rfl, H⟩
      refine ⟨_, rfl, ?_⟩
      refine JL.nil ?_
      ((repeat refine Ex.normal_block ?_); refine Ex.next ?_)
      ((repeat refine JC.seq ?_); refine JC.region ?_)
      refine JL.arith rfl (by unfold In64; omega) rfl ?_
      refine JL.pure rfl rfl ?_
      refine JL.nil ?_
      (repeat refine Ex.normal_block ?_)
      have hmk : k < (l.map c2r).length := by rw [List.length_map]; exact h23
      have e := addAll_take (g := g) (T := tab0) hmk
      rw [List.getElem_map] at e
      refine Ex.again (k + 1) ⟨rfl, rfl, rfl, rfl, rfl, trivial⟩ ⟨h23, ?_⟩ (by omega)
      rw [e]
      exact H.drop 1
    · intro h23
      (try simp only [Bool.not_eq_true', Bool.not_eq_false', decide_eq_true_eq, decide_eq_false_iff_not] at h23)
      have hkk : k = (l.map c2r).length := by rw [List.length_map]; omega
      subst hkk
      rw [List.take_length] at H hgd hkl
      ((repeat refine JC.seq ?_); refine JC.exit ?_)
      (repeat (first | refine Ex.exit_then ?_ | refine Ex.exit_miss (by decide) ?_))
      refine Ex.exit_hit ?_
      ((repeat refine Ex.normal_block ?_); refine Ex.next ?_)
      ((repeat refine JC.seq ?_); refine JC.region ?_)
      refine JL.pure rfl rfl ?_
      refine JL.call fb131 rfl rfl (region_c2 H hgd (by omega) hgW.2) ?_
      rintro _ w9 ⟨rv, rfl, H⟩
      refine ⟨_, rfl, ?_⟩
      refine JL.pure rfl rfl ?_
      refine JL.pure rfl rfl ?_
      refine JL.pure rfl rfl ?_
      refine JL.pure rfl rfl ?_
      refine JL.nil ?_
      ((repeat refine Ex.normal_block ?_); refine Ex.next ?_)
      ((repeat refine JC.seq ?_); refine JC.ret ?_)
      (repeat (first | refine Ex.ret_then ?_ | refine Ex.ret_block ?_))
      refine Ex.ret2 rfl (.tmp rfl) (.tmp rfl) ⟨_, rfl, H.drop 1⟩
end Go.J

namespace Go.J
open Go.RowKit Go.Proofs
set_option maxRecDepth 8000
set_option linter.unusedSimpArgs false
set_option linter.unusedVariables false
theorem withoutR_len (g : Grid) (a b : List Run) : (withoutR g a b).1.length ≤ 8192 := by
  unfold withoutR; split
  · exact regRes_len _
  · simp
theorem checked_one {g : Grid} (hg : g.ok = true) {r : List Run} (hr : rightB g.W g.H r = true) : checkedB g [r] = true := by
  unfold checkedB; rw [hg]; simp [hr]
end Go.J

namespace Go.J
set_option linter.unusedSimpArgs false
set_option linter.unusedVariables false
/-! plain: what filling from a cell does -/
def sidesL (c : Cell) : List Cell := [⟨c.X - 1, c.Y⟩, ⟨c.X + 1, c.Y⟩, ⟨c.X, c.Y - 1⟩, ⟨c.X, c.Y + 1⟩]
theorem mdel_len {K V : Type} [DecidableEq K] {k : K} {m : List (K × V)} (h : k ∈ m.map Prod.fst) : (mdel m k).length + 1 = m.length := by
  induction m with
  | nil => simp at h
  | cons p m ih =>
    simp only [mdel]
    by_cases hp : p.1 = k
    · rw [if_pos hp]; rfl
    · rw [if_neg hp]
      simp only [List.map_cons, List.mem_cons] at h
      have := ih (h.resolve_left fun e => hp e.symm)
      simp only [List.length_cons]
      omega
theorem setR_mem {m : List (Cell × Bool)} {c : Cell} (h : setR m c = true) : c ∈ m.map Prod.fst := by
  rcases Classical.em (c ∈ m.map Prod.fst) with h' | h'
  · exact h'
  · unfold setR at h
    rw [mget_none.2 h'] at h
    cases h
theorem setR_mdel {m : List (Cell × Bool)} (hn : (m.map Prod.fst).Nodup) (k c : Cell) : setR (mdel m k) c = true ↔ c ≠ k ∧ setR m c = true := by
  unfold setR
  rw [mget_mdel k c hn]
  by_cases h : k = c
  · subst h; simp
  · rw [if_neg h]
    exact ⟨fun h' => ⟨fun e => h e.symm, h'⟩, fun h' => h'.2⟩
structure FillW (g : Grid) (m : List (Cell × Bool)) (T : Tab) (m' : List (Cell × Bool)) (T' : Tab) : Prop where
  sub : ∀ x, setR m' x = true → setR m x = true
  closed : ∀ x, setR m x = true → setR m' x ≠ true → ∀ d ∈ sidesL x, setR m' d ≠ true
  len : m'.length ≤ m.length
  cov : ∀ (Y : Nat) x, tabCov T' Y x ↔ tabCov T Y x ∨ (setR m ⟨x, Y⟩ = true ∧ setR m' ⟨x, Y⟩ ≠ true)
  good : ∀ k, Tab.good g.W k T → Tab.good g.W (k + (m.length - m'.length)) T'
  low : Tab.low g.H T → Tab.low g.H T'
theorem FillW.refl (g : Grid) (m : List (Cell × Bool)) (T : Tab) : FillW g m T m T := ⟨fun _ h => h, fun x h h' => absurd h h', Nat.le_refl _, fun Y x => ⟨.inl, fun h => h.elim id fun h => absurd h.1 h.2⟩, fun k h => h.mono (by omega), id⟩
theorem FillW.trans {g : Grid} {m m' m'' : List (Cell × Bool)} {T T' T'' : Tab} (h : FillW g m T m' T') (h' : FillW g m' T' m'' T'') : FillW g m T m'' T'' where
  sub := fun x hx => h.sub x (h'.sub x hx)
  closed := fun x hx hx' d hd hd' => by
    rcases Classical.em (setR m' x = true) with h1 | h1
    · exact h'.closed x h1 hx' d hd hd'
    · exact h.closed x hx h1 d hd (h'.sub d hd')
  len := Nat.le_trans h'.len h.len
  cov := fun Y x => by
    rw [h'.cov, h.cov, or_assoc]
    refine or_congr_right ?_
    constructor
    · rintro (⟨h1, h2⟩ | ⟨h1, h2⟩)
      · exact ⟨h1, fun e => h2 (h'.sub _ e)⟩
      · exact ⟨h.sub _ h1, h2⟩
    · rintro ⟨h1, h2⟩
      rcases Classical.em (setR m' ⟨x, Y⟩ = true) with h3 | h3
      · exact .inr ⟨h3, h2⟩
      · exact .inl ⟨h1, h3⟩
  good := fun k hk => (h'.good _ (h.good k hk)).mono (by have := h.len; have := h'.len; omega)
  low := fun hl => h'.low (h.low hl)
/-- taking a cell out, and then its sides -/
theorem FillW.cell {g : Grid} (hH : g.H ≤ 256) {m m' : List (Cell × Bool)} {T T' : Tab} {c : Cell} (hn : (m.map Prod.fst).Nodup) (hT : T.length = 256) (hc : inG g c) (hm : setR m c = true)
    (h : FillW g (mdel m c) (T.add g.W g.H c.Y c.X (c.X + 1)) m' T') (hs : ∀ d ∈ sidesL c, setR m' d ≠ true) : FillW g m T m' T' ∧ setR m' c ≠ true := by
  have hl := mdel_len (setR_mem hm)
  have hc' := hc
  unfold inG at hc'
  have hout : setR m' c ≠ true := fun e => ((setR_mdel hn c c).1 (h.sub c e)).1 rfl
  refine ⟨⟨fun x hx => ((setR_mdel hn c x).1 (h.sub x hx)).2, fun x hx hx' d hd => ?_, by have := h.len; omega, fun Y x => ?_, fun k hk => (h.good _ (hk.add g.H c.Y c.X (c.X + 1))).mono (by have := h.len; omega), fun hlow => h.low (hlow.add _ _ _ _)⟩, hout⟩
  · by_cases e : x = c
    · subst e; exact hs d hd
    · exact h.closed x ((setR_mdel hn c x).2 ⟨e, hx⟩) hx' d hd
  · rw [h.cov, add_cov hT hH, or_assoc]
    refine or_congr_right ?_
    rw [setR_mdel hn]
    constructor
    · rintro (⟨_, h2, h3⟩ | ⟨⟨h1, h2⟩, h3⟩)
      · have e : (⟨x, (Y : Int)⟩ : Cell) = c := by cases c; simp only [Cell.mk.injEq] at *; omega
        rw [e]; exact ⟨hm, hout⟩
      · exact ⟨h2, h3⟩
    · rintro ⟨h1, h2⟩
      by_cases e : (⟨x, (Y : Int)⟩ : Cell) = c
      · left
        subst e
        simp only at hc'
        exact ⟨⟨by simp only; omega, by simp only; omega⟩, rfl, by simp only; omega, by simp only; omega⟩
      · exact .inr ⟨⟨e, h1⟩, h2⟩
end Go.J

namespace Go.J
set_option linter.unusedSimpArgs false
set_option linter.unusedVariables false
open Go.RowKit
section
variable {P : Program} {N : Sz} {ops : Array Oper} {Q : Exit → Act → World → Prop} {rest : List Oper} {fr : Fr} {w w0 : World} {L : List HP}
  {d : Option Tmp} {ty : TypeId} {pos : String} {af : Array Edge}
/-- an element of an array that is a value -/
theorem JL.index {x ix : Operand} {t e : TypeId} {len sz : Nat} {cs : List Value} {m : Int} (j : Nat) (hx : fr.ev x = some (.agg ⟨cs⟩)) (hi : fr.ev ix = some (.int .i64 m)) (hu : P.underlying t = some (.array len e)) (hs : tySh P e = some (true, sz)) (hm : m = (j : Int)) (hj : j < len)
    (hd : Fr.fits N d = true) (k : JL P N ops Q rest (fr.put d (.agg ⟨(cs.drop (j * sz)).take sz⟩)) w) : JL P N ops Q (⟨d, .index t x ix, ty, pos, af, none⟩ :: rest) fr w := by
  subst hm
  refine JL.val rfl hd (fun a H => ?_) k
  have h1 : (j : Int) < len := by omega
  simp only [execOp, H.eval hx, H.eval hi]
  simp [Instr.index, asIntOf, run_underlying hu, part, (tySh_agg hs w).1, (tySh_agg hs w).2, h1]
  exact fun h => absurd h (by omega)
end
end Go.J

namespace Go.J
open Go.RowKit Go.Proofs
set_option maxRecDepth 8000
set_option linter.unusedSimpArgs false
set_option linter.unusedVariables false
end Go.J

namespace Go.J
set_option linter.unusedSimpArgs false
set_option linter.unusedVariables false
/-! plain: the parts of a region, one by one -/
def cellLt (a b : Cell) : Prop := a.Y < b.Y ∨ (a.Y = b.Y ∧ a.X < b.X)
theorem cellsAll_sorted {W H : Int} {rs : List Run} (h : Canon W H rs) : (cellsAll rs).Pairwise cellLt := by
  unfold cellsAll
  rw [List.pairwise_flatMap]
  refine ⟨fun r _ => ?_, h.ord.imp fun {a b} hab x hx y hy => ?_⟩
  · unfold cellsRun
    rw [List.pairwise_map]
    exact List.pairwise_lt_range.imp fun {a b} hab => .inr ⟨rfl, by simp only; omega⟩
  · rw [mem_cellsRun] at hx hy
    unfold cellLt
    omega
def headC (p : List Run) : Option Cell := p.head?.map fun r => ⟨r.From, r.Y⟩
theorem headC_least {W H : Int} {p : List Run} (h : Canon W H p) {a : Cell} (ha : headC p = some a) : hasB p a = true ∧ ∀ x, hasB p x = true → x = a ∨ cellLt a x := by
  cases p with
  | nil => cases ha
  | cons r p =>
    simp only [headC, List.head?_cons, Option.map_some, Option.some.injEq] at ha
    subst ha
    have hr := h.rng r List.mem_cons_self
    refine ⟨hasB_cons.2 (.inl ⟨rfl, Int.le_refl _, hr.2.2.1⟩), fun x hx => ?_⟩
    have hord := List.pairwise_cons.1 h.ord
    rcases hasB_cons.1 hx with ⟨h1, h2, h3⟩ | h1
    · by_cases e : x.X = r.From
      · left; cases x; simp only [Cell.mk.injEq] at *; omega
      · right; unfold cellLt; simp only; omega
    · obtain ⟨s, hs, k1, k2, k3⟩ := hasB_iff.1 h1
      have := hord.1 s hs
      right; unfold cellLt; simp only; omega
structure PartsTo (g : Grid) (r : List Run) (pre : List Cell) (m : List (Cell × Bool)) (ps : List (List Run)) : Prop where
  sub : ∀ x, setR m x = true → hasB r x = true
  gone : ∀ x ∈ pre, setR m x ≠ true
  part : ∀ p ∈ ps, rightB g.W g.H p = true ∧ (∃ x ∈ pre, headC p = some x) ∧ ∀ x, hasB p x = true → hasB r x = true ∧ setR m x ≠ true ∧ ∀ d ∈ sidesL x, setR m d ≠ true
  all : ∀ x, hasB r x = true → setR m x = true ∨ ∃ p ∈ ps, hasB p x = true
  apart : ps.Pairwise fun p q => ∀ x, hasB p x = true → ¬ hasB q x = true ∧ ∀ d ∈ sidesL x, ¬ hasB q d = true
  ord : ps.Pairwise fun p q => ∀ a b, headC p = some a → headC q = some b → cellLt a b
  len : ps.length ≤ pre.length
theorem PartsTo.start {g : Grid} {r : List Run} {m : List (Cell × Bool)} (h : ∀ x, setR m x = true ↔ hasB r x = true) : PartsTo g r [] m [] :=
  ⟨fun x hx => (h x).1 hx, by simp, by simp, fun x hx => .inl ((h x).2 hx), List.Pairwise.nil, List.Pairwise.nil, Nat.le_refl _⟩
theorem PartsTo.skip {g : Grid} {r : List Run} {pre : List Cell} {m : List (Cell × Bool)} {ps : List (List Run)} {x : Cell} (h : PartsTo g r pre m ps) (hx : setR m x ≠ true) : PartsTo g r (pre ++ [x]) m ps :=
  ⟨h.sub, fun y hy => by
    rcases List.mem_append.1 hy with hy | hy
    · exact h.gone y hy
    · simp only [List.mem_singleton] at hy; subst hy; exact hx, fun p hp => by
    obtain ⟨h1, ⟨y, hy, h2⟩, h3⟩ := h.part p hp
    exact ⟨h1, ⟨y, List.mem_append_left _ hy, h2⟩, h3⟩, h.all, h.apart, h.ord, by have := h.len; rw [List.length_append]; omega⟩
theorem PartsTo.fill {g : Grid} (hg : g.ok = true) (hs : g.W * g.H ≤ 4096) {r : List Run} (hr : Canon g.W g.H r) {pre : List Cell} {m m' : List (Cell × Bool)} {T' : Tab} {ps : List (List Run)} {x : Cell} (h : PartsTo g r pre m ps) (hpx : pre ++ [x] <+: cellsAll r)
    (hx : setR m x = true) (hw : FillW g m tab0 m' T') (hout : setR m' x ≠ true) : regRes T' = (regR T', 0) ∧ PartsTo g r (pre ++ [x]) m' (ps ++ [regR T']) := by
  obtain ⟨hW, hH, _, _⟩ := Grid.ok_b hg
  have hgd := hw.good 0 (tab0_good g.W)
  have hlow := hw.low (tab0_low g.H)
  obtain ⟨f1, f2, f3⟩ := regRes_fits hgd hlow hW.1 hH.1 hs
  have hcan := canon_of_right f3
  have hin : ∀ c, setR m c = true → inG g c := fun c hc => canon_inG hr (h.sub c hc)
  have hhas : ∀ c, hasB (regR T') c = true ↔ setR m c = true ∧ setR m' c ≠ true := by
    intro c
    rw [regR_has hgd]
    constructor
    · rintro ⟨h1, h2, h3⟩
      rcases (hw.cov _ _).1 h3 with h4 | h4
      · exact absurd h4 (tabCov0 _ _)
      · rwa [show (⟨c.X, ((c.Y.toNat : Nat) : Int)⟩ : Cell) = c by cases c; simp only [Cell.mk.injEq, true_and]; simp only at h1; omega] at h4
    · intro h4
      have hc := hin c h4.1
      unfold inG at hc
      refine ⟨by omega, by omega, (hw.cov _ _).2 (.inr ?_)⟩
      rwa [show (⟨c.X, ((c.Y.toNat : Nat) : Int)⟩ : Cell) = c by cases c; simp only [Cell.mk.injEq, true_and]; simp only at hc; omega]
  have hxp : hasB (regR T') x = true := (hhas x).2 ⟨hx, hout⟩
  have hmemr : ∀ c, setR m c = true → c = x ∨ cellLt x c := by
    intro c hc
    have hcr : c ∈ cellsAll r := mem_cellsAll.2 (h.sub c hc)
    obtain ⟨suf, hsuf⟩ := hpx
    rw [← hsuf] at hcr
    have hsort := cellsAll_sorted hr
    rw [← hsuf] at hsort
    rcases List.mem_append.1 hcr with h1 | h1
    · rcases List.mem_append.1 h1 with h2 | h2
      · exact absurd hc (h.gone c h2)
      · simp only [List.mem_singleton] at h2; exact .inl h2
    · exact .inr ((List.pairwise_append.1 hsort).2.2 x (by simp) c h1)
  have hhead : headC (regR T') = some x := by
    cases hp : regR T' with
    | nil => rw [hp] at hxp; exact absurd hxp hasB_nil
    | cons q rest =>
      have hh : headC (regR T') = some ⟨q.From, q.Y⟩ := by rw [hp]; rfl
      obtain ⟨k1, k2⟩ := headC_least hcan hh
      have k3 := hmemr _ ((hhas _).1 k1).1
      have k4 := k2 x hxp
      have : (⟨q.From, q.Y⟩ : Cell) = x := by
        rcases k3 with k3 | k3
        · exact k3
        · rcases k4 with k4 | k4
          · exact k4.symm
          · exfalso; unfold cellLt at k3 k4; omega
      rw [← hp, hh, this]
  have hltpre : ∀ a ∈ pre, cellLt a x := by
    intro a ha
    obtain ⟨suf, hsuf⟩ := hpx
    have hsort := cellsAll_sorted hr
    rw [← hsuf] at hsort
    exact (List.pairwise_append.1 (List.pairwise_append.1 hsort).1).2.2 a ha x (by simp)
  refine ⟨f1, ⟨fun c hc => h.sub c (hw.sub c hc), ?_, ?_, ?_, ?_, ?_, by have := h.len; simp only [List.length_append, List.length_singleton]; omega⟩⟩
  · intro y hy e
    rcases List.mem_append.1 hy with hy | hy
    · exact h.gone y hy (hw.sub y e)
    · simp only [List.mem_singleton] at hy; subst hy; exact hout e
  · intro p hp
    rcases List.mem_append.1 hp with hp | hp
    · obtain ⟨h1, ⟨y, hy, h2⟩, h3⟩ := h.part p hp
      exact ⟨h1, ⟨y, List.mem_append_left _ hy, h2⟩, fun c hc => ⟨(h3 c hc).1, fun e => (h3 c hc).2.1 (hw.sub c e), fun d hd e => (h3 c hc).2.2 d hd (hw.sub d e)⟩⟩
    · simp only [List.mem_singleton] at hp
      subst hp
      exact ⟨f3, ⟨x, by simp, hhead⟩, fun c hc => ⟨h.sub c ((hhas c).1 hc).1, ((hhas c).1 hc).2, hw.closed c ((hhas c).1 hc).1 ((hhas c).1 hc).2⟩⟩
  · intro c hc
    rcases h.all c hc with h1 | ⟨p, hp, h1⟩
    · rcases Classical.em (setR m' c = true) with h2 | h2
      · exact .inl h2
      · exact .inr ⟨regR T', by simp, (hhas c).2 ⟨h1, h2⟩⟩
    · exact .inr ⟨p, List.mem_append_left _ hp, h1⟩
  · refine List.pairwise_append.2 ⟨h.apart, by simp, fun p hp q hq c hc => ?_⟩
    simp only [List.mem_singleton] at hq
    subst hq
    have h3 := (h.part p hp).2.2 c hc
    exact ⟨fun e => h3.2.1 ((hhas c).1 e).1, fun d hd e => h3.2.2 d hd ((hhas d).1 e).1⟩
  · refine List.pairwise_append.2 ⟨h.ord, by simp, fun p hp q hq a b ha hb => ?_⟩
    simp only [List.mem_singleton] at hq
    subst hq
    rw [hhead] at hb
    cases hb
    obtain ⟨_, ⟨y, hy, h2⟩, _⟩ := h.part p hp
    rw [h2] at ha
    cases ha
    exact hltpre _ hy
end Go.J

namespace Go.J
set_option linter.unusedSimpArgs false
set_option linter.unusedVariables false
open Go.RowKit
/-! ## several pieces as one; a piece to the front -/
def bag (M : List HP) : HP := starL M
theorem Own.pack {w0 w : World} {M L : List HP} (H : Own w0 w (M ++ L)) : Own w0 w (bag M :: L) := H.entail fun _ hs => starL_split hs
theorem Own.unpack {w0 w : World} {M L : List HP} (H : Own w0 w (bag M :: L)) : Own w0 w (M ++ L) := H.entail fun _ hs => starL_append hs
theorem Own.unpackAt {w0 w : World} {M L : List HP} {i : Nat} (H : Own w0 w L) (hi : L[i]? = some (bag M)) : Own w0 w (M ++ L.eraseIdx i) := (H.front i hi).unpack
/-- rows of rows -/
def rowsOf {α : Type} (R : Value → List α → HP) (vs : List Value) (ps : List (List α)) : List HP := List.zipWith R vs ps
theorem rowsOf_snoc {α : Type} {R : Value → List α → HP} {vs : List Value} {ps : List (List α)} {v : Value} {p : List α} (h : vs.length = ps.length) : rowsOf R (vs ++ [v]) (ps ++ [p]) = rowsOf R vs ps ++ [R v p] := by
  unfold rowsOf; rw [List.zipWith_append h]; rfl
end Go.J

namespace Go.J
open Go.RowKit Go.Proofs
set_option maxRecDepth 8000
set_option linter.unusedSimpArgs false
set_option linter.unusedVariables false
theorem mset_len {K V : Type} [DecidableEq K] (k : K) (v : V) : ∀ m : List (K × V), (mset m k v).length ≤ m.length + 1 := by
  intro m
  induction m with
  | nil => simp [mset]
  | cons p m ih =>
    simp only [mset]
    split
    · simp
    · simp only [List.length_cons]; omega
end Go.J

namespace Go.J
set_option linter.unusedSimpArgs false
set_option linter.unusedVariables false
/-! plain: the cells of parts, each with its part's number -/
section
variable {g : Grid} {r : List Run} {m : List (Cell × Bool)} {ps : List (List Run)}
end
end Go.J

namespace Go.J
open Go.RowKit Go.Proofs
set_option maxRecDepth 8000
set_option linter.unusedSimpArgs false
set_option linter.unusedVariables false
end Go.J

namespace Go.J
open Go.RowKit Go.Proofs
set_option maxRecDepth 8000
set_option linter.unusedSimpArgs false
set_option linter.unusedVariables false
/-! drift: bounds, drifters -/
theorem withinD_c (n lo hi : Int) (w : World) : Pur Try.prog 204 #[.int .i64 n, .int .i64 lo, .int .i64 hi] w (.bool (decide (lo ≤ n ∧ n ≤ hi))) := by
  refine pur_J (args := [.int .i64 n, .int .i64 lo, .int .i64 hi]) Try.func204 rfl Try.ntmps204 rfl ?_
  have H := Own.start w
  ((repeat refine JC.seq ?_); refine JC.region ?_)
  refine JL.pure rfl rfl ?_
  refine JL.nil ?_
  ((repeat refine Ex.normal_block ?_); refine Ex.next ?_)
  ((repeat refine JC.seq ?_); refine JC.region ?_)
  refine JL.pure rfl rfl ?_
  refine JL.pure rfl rfl ?_
  refine JL.pure rfl rfl ?_
  refine JL.pure rfl rfl ?_
  refine JL.cases 10 rfl ?_ ?_
  · intro h10
    (try simp only [Bool.not_eq_true', Bool.not_eq_false', decide_eq_true_eq, decide_eq_false_iff_not] at h10)
    refine JL.want rfl rfl ?_
    refine JL.pure rfl rfl ?_
    refine JL.want rfl rfl ?_
    refine JL.pure rfl rfl ?_
    refine JL.want rfl rfl ?_
    refine JL.pure rfl rfl ?_
    refine JL.pure rfl rfl ?_
    refine JL.pure rfl rfl ?_
    refine JL.nil ?_
    ((repeat refine Ex.normal_block ?_); refine Ex.next ?_)
    ((repeat refine JC.seq ?_); refine JC.ret ?_)
    (repeat (first | refine Ex.ret_then ?_ | refine Ex.ret_block ?_))
    refine Ex.ret1 rfl (.tmp rfl) ⟨?_, H.below⟩
    simp [*]
  · intro h10
    (try simp only [Bool.not_eq_true', Bool.not_eq_false', decide_eq_true_eq, decide_eq_false_iff_not] at h10)
    refine JL.pass rfl rfl rfl rfl ?_
    refine JL.pass rfl rfl rfl rfl ?_
    refine JL.pass rfl rfl rfl rfl ?_
    refine JL.pure rfl rfl ?_
    refine JL.pure rfl rfl ?_
    refine JL.nil ?_
    ((repeat refine Ex.normal_block ?_); refine Ex.next ?_)
    ((repeat refine JC.seq ?_); refine JC.ret ?_)
    (repeat (first | refine Ex.ret_then ?_ | refine Ex.ret_block ?_))
    refine Ex.ret1 rfl (.tmp rfl) ⟨?_, H.below⟩
    simp [*]
theorem floorD_c (n : Int) (w : World) (hn : -4611686018427387904 ≤ n ∧ n ≤ 4611686018427387904) : Pur Try.prog 272 #[.int .i64 n] w (.int .i64 (n / 1000000)) := by
  refine pur_J (args := [.int .i64 n]) Try.func272 rfl Try.ntmps272 rfl ?_
  have H := Own.start w
  ((repeat refine JC.seq ?_); refine JC.region ?_)
  refine JL.pure rfl rfl ?_
  refine JL.nil ?_
  ((repeat refine Ex.normal_block ?_); refine Ex.next ?_)
  ((repeat refine JC.seq ?_); refine JC.region ?_)
  refine JL.pure rfl rfl ?_
  refine JL.pure rfl rfl ?_
  refine JL.nil ?_
  ((repeat refine Ex.normal_block ?_); refine Ex.next ?_)
  ((repeat refine JC.seq ?_); refine JC.cond rfl ?_ ?_)
  · intro h4
    (try simp only [Bool.not_eq_true', Bool.not_eq_false', decide_eq_true_eq, decide_eq_false_iff_not] at h4)
    ((repeat refine JC.seq ?_); refine JC.region ?_)
    refine JL.pure rfl rfl ?_
    refine JL.arith rfl (by unfold In64; omega) rfl ?_
    first
      | refine JL.quoP rfl rfl (by omega) (by omega) (by omega) rfl ?_
      | refine JL.quo rfl rfl (by omega) rfl ?_
    refine JL.neg rfl (by unfold In64; omega) rfl ?_
    refine JL.pure rfl rfl ?_
    refine JL.nil ?_
    ((repeat refine Ex.normal_block ?_); refine Ex.next ?_)
    ((repeat refine JC.seq ?_); refine JC.ret ?_)
    (repeat (first | refine Ex.ret_then ?_ | refine Ex.ret_block ?_))
    refine Ex.ret1 rfl (.tmp rfl) ⟨?_, H.below⟩
    first | rfl | (congr 2; omega)
  · intro h4
    (try simp only [Bool.not_eq_true', Bool.not_eq_false', decide_eq_true_eq, decide_eq_false_iff_not] at h4)
    ((repeat refine JC.seq ?_); refine JC.skip ?_)
    ((repeat refine Ex.normal_block ?_); refine Ex.next ?_)
    ((repeat refine JC.seq ?_); refine JC.region ?_)
    refine JL.pure rfl rfl ?_
    first
      | refine JL.quoP rfl rfl (by omega) (by omega) (by omega) rfl ?_
      | refine JL.quo rfl rfl (by omega) rfl ?_
    refine JL.pure rfl rfl ?_
    refine JL.nil ?_
    ((repeat refine Ex.normal_block ?_); refine Ex.next ?_)
    ((repeat refine JC.seq ?_); refine JC.ret ?_)
    (repeat (first | refine Ex.ret_then ?_ | refine Ex.ret_block ?_))
    refine Ex.ret1 rfl (.tmp rfl) ⟨?_, H.below⟩
    first | rfl | (congr 2; omega)
structure Bnd where
  low : Int
  high : Int
deriving DecidableEq
def Bnd.ev (b : Bnd) : Value := .agg ⟨[.int .i64 b.low, .int .i64 b.high]⟩
def Bnd.tame (b : Bnd) (M : Int) : Prop := (-M ≤ b.low ∧ b.low ≤ M) ∧ -M ≤ b.high ∧ b.high ≤ M
def Bnd.plus (a b : Bnd) : Bnd := ⟨a.low + b.low, a.high + b.high⟩
def Bnd.minus (a b : Bnd) : Bnd := ⟨a.low - b.high, a.high - b.low⟩
def Bnd.times (a b : Bnd) : Bnd := ⟨min (a.low * b.low) (a.low * b.high), max (a.high * b.low) (a.high * b.high)⟩
theorem plusD_c (a b : Bnd) (w : World) (ha : a.tame 1000000000000) (hb : b.tame 1000000000000) : Pur Try.prog 270 #[a.ev, b.ev] w (a.plus b).ev := by
  unfold Bnd.tame at ha hb
  refine pur_J (args := [a.ev, b.ev]) Try.func270 rfl Try.ntmps270 rfl ?_
  have H := Own.start w
  ((repeat refine JC.seq ?_); refine JC.region ?_)
  refine JL.box H rfl rfl rfl ?_
  intro b2 w1 H
  refine JL.box H rfl rfl rfl ?_
  intro b3 w2 H
  refine JL.alloc H z358 rfl ?_
  intro b4 w3 H
  refine JL.nil ?_
  ((repeat refine Ex.normal_block ?_); refine Ex.next ?_)
  ((repeat refine JC.seq ?_); refine JC.region ?_)
  refine JL.fieldAddr rfl Try.underlying358 rfl sh3 rfl ?_
  refine JL.loadB 2 H rfl sh3 rfl rfl rfl ?_
  refine JL.fieldAddr rfl Try.underlying358 rfl sh3 rfl ?_
  refine JL.loadB 1 H rfl sh3 rfl rfl rfl ?_
  refine JL.arith rfl (by unfold In64; omega) rfl ?_
  refine JL.fieldAddr rfl Try.underlying358 rfl sh3 rfl ?_
  refine JL.loadB 2 H rfl sh3 rfl rfl rfl ?_
  refine JL.fieldAddr rfl Try.underlying358 rfl sh3 rfl ?_
  refine JL.loadB 1 H rfl sh3 rfl rfl rfl ?_
  refine JL.arith rfl (by unfold In64; omega) rfl ?_
  refine JL.build s358 rfl rfl ?_
  refine JL.storeB 0 H rfl rfl sh358 rfl rfl rfl rfl rfl ?_
  intro w4 H
  refine JL.nil ?_
  ((repeat refine Ex.normal_block ?_); refine Ex.next ?_)
  ((repeat refine JC.seq ?_); refine JC.ret ?_)
  (repeat (first | refine Ex.ret_then ?_ | refine Ex.ret_block ?_))
  refine Ex.ret1 rfl (.cell rfl sh358 (LdAt.of_block (H.get (i := 0) rfl).2 rfl)) ⟨rfl, H.below⟩
theorem minusD_c (a b : Bnd) (w : World) (ha : a.tame 1000000000000) (hb : b.tame 1000000000000) : Pur Try.prog 271 #[a.ev, b.ev] w (a.minus b).ev := by
  unfold Bnd.tame at ha hb
  refine pur_J (args := [a.ev, b.ev]) Try.func271 rfl Try.ntmps271 rfl ?_
  have H := Own.start w
  ((repeat refine JC.seq ?_); refine JC.region ?_)
  refine JL.box H rfl rfl rfl ?_
  intro b2 w1 H
  refine JL.box H rfl rfl rfl ?_
  intro b3 w2 H
  refine JL.alloc H z358 rfl ?_
  intro b4 w3 H
  refine JL.nil ?_
  ((repeat refine Ex.normal_block ?_); refine Ex.next ?_)
  ((repeat refine JC.seq ?_); refine JC.region ?_)
  refine JL.fieldAddr rfl Try.underlying358 rfl sh3 rfl ?_
  refine JL.loadB 2 H rfl sh3 rfl rfl rfl ?_
  refine JL.fieldAddr rfl Try.underlying358 rfl sh3 rfl ?_
  refine JL.loadB 1 H rfl sh3 rfl rfl rfl ?_
  refine JL.arith rfl (by unfold In64; omega) rfl ?_
  refine JL.fieldAddr rfl Try.underlying358 rfl sh3 rfl ?_
  refine JL.loadB 2 H rfl sh3 rfl rfl rfl ?_
  refine JL.fieldAddr rfl Try.underlying358 rfl sh3 rfl ?_
  refine JL.loadB 1 H rfl sh3 rfl rfl rfl ?_
  refine JL.arith rfl (by unfold In64; omega) rfl ?_
  refine JL.build s358 rfl rfl ?_
  refine JL.storeB 0 H rfl rfl sh358 rfl rfl rfl rfl rfl ?_
  intro w4 H
  refine JL.nil ?_
  ((repeat refine Ex.normal_block ?_); refine Ex.next ?_)
  ((repeat refine JC.seq ?_); refine JC.ret ?_)
  (repeat (first | refine Ex.ret_then ?_ | refine Ex.ret_block ?_))
  refine Ex.ret1 rfl (.cell rfl sh358 (LdAt.of_block (H.get (i := 0) rfl).2 rfl)) ⟨rfl, H.below⟩
theorem timesD_c (a b : Bnd) (w : World) (ha : a.tame 1000000) (hb : b.tame 1000000) : Pur Try.prog 269 #[a.ev, b.ev] w (a.times b).ev := by
  unfold Bnd.tame at ha hb
  have q1 := mul_bd2 ha.1.1 ha.1.2 hb.1.1 hb.1.2
  have q2 := mul_bd2 ha.1.1 ha.1.2 hb.2.1 hb.2.2
  have q3 := mul_bd2 ha.2.1 ha.2.2 hb.1.1 hb.1.2
  have q4 := mul_bd2 ha.2.1 ha.2.2 hb.2.1 hb.2.2
  refine pur_J (args := [a.ev, b.ev]) Try.func269 rfl Try.ntmps269 rfl ?_
  have H := Own.start w
  ((repeat refine JC.seq ?_); refine JC.region ?_)
  refine JL.box H rfl rfl rfl ?_
  intro b2 w1 H
  refine JL.box H rfl rfl rfl ?_
  intro b3 w2 H
  refine JL.alloc H z358 rfl ?_
  intro b4 w3 H
  refine JL.nil ?_
  ((repeat refine Ex.normal_block ?_); refine Ex.next ?_)
  ((repeat refine JC.seq ?_); refine JC.region ?_)
  refine JL.fieldAddr rfl Try.underlying358 rfl sh3 rfl ?_
  refine JL.loadB 2 H rfl sh3 rfl rfl rfl ?_
  refine JL.fieldAddr rfl Try.underlying358 rfl sh3 rfl ?_
  refine JL.loadB 1 H rfl sh3 rfl rfl rfl ?_
  refine JL.arith rfl (by unfold In64; omega) rfl ?_
  refine JL.fieldAddr rfl Try.underlying358 rfl sh3 rfl ?_
  refine JL.loadB 2 H rfl sh3 rfl rfl rfl ?_
  refine JL.fieldAddr rfl Try.underlying358 rfl sh3 rfl ?_
  refine JL.loadB 1 H rfl sh3 rfl rfl rfl ?_
  refine JL.arith rfl (by unfold In64; omega) rfl ?_
  refine JL.pure rfl rfl ?_
  refine JL.fieldAddr rfl Try.underlying358 rfl sh3 rfl ?_
  refine JL.loadB 2 H rfl sh3 rfl rfl rfl ?_
  refine JL.fieldAddr rfl Try.underlying358 rfl sh3 rfl ?_
  refine JL.loadB 1 H rfl sh3 rfl rfl rfl ?_
  refine JL.arith rfl (by unfold In64; omega) rfl ?_
  refine JL.fieldAddr rfl Try.underlying358 rfl sh3 rfl ?_
  refine JL.loadB 2 H rfl sh3 rfl rfl rfl ?_
  refine JL.fieldAddr rfl Try.underlying358 rfl sh3 rfl ?_
  refine JL.loadB 1 H rfl sh3 rfl rfl rfl ?_
  refine JL.arith rfl (by unfold In64; omega) rfl ?_
  refine JL.pure rfl rfl ?_
  refine JL.build s358 rfl rfl ?_
  refine JL.storeB 0 H rfl rfl sh358 rfl rfl rfl rfl rfl ?_
  intro w4 H
  refine JL.nil ?_
  ((repeat refine Ex.normal_block ?_); refine Ex.next ?_)
  ((repeat refine JC.seq ?_); refine JC.ret ?_)
  (repeat (first | refine Ex.ret_then ?_ | refine Ex.ret_block ?_))
  refine Ex.ret1 rfl (.cell rfl sh358 (LdAt.of_block (H.get (i := 0) rfl).2 rfl)) ⟨rfl, H.below⟩
def stillP (p : Push) : Push := ⟨⟨min 0 p.Low.X, min 0 p.Low.Y⟩, ⟨max 0 p.High.X, max 0 p.High.Y⟩⟩
theorem stillD_c (p : Push) (w : World) : Pur Try.prog 230 #[p.ev] w (stillP p).ev := by
  refine pur_J (args := [p.ev]) Try.func230 rfl Try.ntmps230 rfl ?_
  have H := Own.start w
  ((repeat refine JC.seq ?_); refine JC.region ?_)
  refine JL.box H rfl rfl rfl ?_
  intro b1 w1 H
  refine JL.alloc H z54 rfl ?_
  intro b2 w2 H
  refine JL.nil ?_
  ((repeat refine Ex.normal_block ?_); refine Ex.next ?_)
  ((repeat refine JC.seq ?_); refine JC.region ?_)
  refine JL.fieldAddr rfl Try.underlying54 rfl sh23 rfl ?_
  refine JL.fieldAddr rfl Try.underlying23 rfl sh3 rfl ?_
  refine JL.loadB 1 H rfl sh3 rfl rfl rfl ?_
  refine JL.pure rfl rfl ?_
  refine JL.fieldAddr rfl Try.underlying54 rfl sh23 rfl ?_
  refine JL.fieldAddr rfl Try.underlying23 rfl sh3 rfl ?_
  refine JL.loadB 1 H rfl sh3 rfl rfl rfl ?_
  refine JL.pure rfl rfl ?_
  refine JL.build s23 rfl rfl ?_
  refine JL.fieldAddr rfl Try.underlying54 rfl sh23 rfl ?_
  refine JL.fieldAddr rfl Try.underlying23 rfl sh3 rfl ?_
  refine JL.loadB 1 H rfl sh3 rfl rfl rfl ?_
  refine JL.pure rfl rfl ?_
  refine JL.fieldAddr rfl Try.underlying54 rfl sh23 rfl ?_
  refine JL.fieldAddr rfl Try.underlying23 rfl sh3 rfl ?_
  refine JL.loadB 1 H rfl sh3 rfl rfl rfl ?_
  refine JL.pure rfl rfl ?_
  refine JL.build s23 rfl rfl ?_
  refine JL.build s54 rfl rfl ?_
  refine JL.storeB 0 H rfl rfl sh54 rfl rfl rfl rfl rfl ?_
  intro w3 H
  refine JL.nil ?_
  ((repeat refine Ex.normal_block ?_); refine Ex.next ?_)
  ((repeat refine JC.seq ?_); refine JC.ret ?_)
  (repeat (first | refine Ex.ret_then ?_ | refine Ex.ret_block ?_))
  refine Ex.ret1 rfl (.cell rfl sh54 (LdAt.of_block (H.get (i := 0) rfl).2 rfl)) ⟨rfl, H.below⟩
structure Drifter where
  dl : Int
  dh : Int
  cl : Int
  ch : Int
  jibes : Bool
def Drifter.ev (d : Drifter) : Value := .agg ⟨[.int .i64 d.dl, .int .i64 d.dh, .int .i64 d.cl, .int .i64 d.ch, .bool d.jibes]⟩
def Drifter.ok (d : Drifter) : Bool := decide (0 ≤ d.dl ∧ d.dl ≤ d.dh) && decide (0 ≤ d.cl ∧ d.cl ≤ d.ch) && decide (max d.dh d.ch ≤ 1000)
theorem drifter_c (d : Drifter) (w : World) : Pur Try.prog 227 #[d.ev] w (.int .i64 (if d.ok then 0 else 2)) := by
  refine pur_J (args := [d.ev]) Try.func227 rfl Try.ntmps227 rfl ?_
  have H := Own.start w
  ((repeat refine JC.seq ?_); refine JC.region ?_)
  refine JL.box H rfl rfl rfl ?_
  intro b1 w1 H
  refine JL.pure rfl rfl ?_
  refine JL.nil ?_
  ((repeat refine Ex.normal_block ?_); refine Ex.next ?_)
  ((repeat refine JC.seq ?_); refine JC.region ?_)
  refine JL.fieldAddr rfl Try.underlying86 rfl sh3 rfl ?_
  refine JL.loadB 0 H rfl sh3 rfl rfl rfl ?_
  refine JL.fieldAddr rfl Try.underlying86 rfl sh3 rfl ?_
  refine JL.loadB 0 H rfl sh3 rfl rfl rfl ?_
  refine JL.callP H fb204 rfl rfl (withinD_c _ _ _ _) ?_
  intro w2 H _
  refine JL.pure rfl rfl ?_
  refine JL.pure rfl rfl ?_
  refine JL.cases 9 rfl ?_ ?_
  · intro h9
    (try simp only [Bool.not_eq_true', Bool.not_eq_false', decide_eq_true_eq, decide_eq_false_iff_not] at h9)
    refine JL.pass rfl rfl rfl rfl ?_
    refine JL.pass rfl rfl rfl rfl ?_
    refine JL.pass rfl rfl rfl rfl ?_
    refine JL.pass rfl rfl rfl rfl ?_
    refine JL.pass rfl rfl rfl rfl ?_
    refine JL.pass rfl rfl rfl rfl ?_
    refine JL.pure rfl rfl ?_
    refine JL.pure rfl rfl ?_
    refine JL.pass rfl rfl rfl rfl ?_
    refine JL.pass rfl rfl rfl rfl ?_
    refine JL.pass rfl rfl rfl rfl ?_
    refine JL.pass rfl rfl rfl rfl ?_
    refine JL.pass rfl rfl rfl rfl ?_
    refine JL.pass rfl rfl rfl rfl ?_
    refine JL.pure rfl rfl ?_
    refine JL.nil ?_
    ((repeat refine Ex.normal_block ?_); refine Ex.next ?_)
    ((repeat refine JC.seq ?_); refine JC.cond rfl (fun _ => ?_) (fun h => by cases h))
    ((repeat refine JC.seq ?_); refine JC.region ?_)
    refine JL.pure rfl rfl ?_
    refine JL.nil ?_
    ((repeat refine Ex.normal_block ?_); refine Ex.next ?_)
    ((repeat refine JC.seq ?_); refine JC.ret ?_)
    (repeat (first | refine Ex.ret_then ?_ | refine Ex.ret_block ?_))
    refine Ex.ret1 rfl (.tmp rfl) ⟨?_, H.below⟩
    have hd : d.ok = false := by unfold Drifter.ok; simp_all <;> omega
    rw [hd]
    rfl
  · intro h9
    (try simp only [Bool.not_eq_true', Bool.not_eq_false', decide_eq_true_eq, decide_eq_false_iff_not] at h9)
    refine JL.want rfl rfl ?_
    refine JL.fieldAddr rfl Try.underlying86 rfl sh3 rfl ?_
    refine JL.want rfl rfl ?_
    refine JL.loadB 0 H rfl sh3 rfl rfl rfl ?_
    refine JL.want rfl rfl ?_
    refine JL.fieldAddr rfl Try.underlying86 rfl sh3 rfl ?_
    refine JL.want rfl rfl ?_
    refine JL.loadB 0 H rfl sh3 rfl rfl rfl ?_
    refine JL.want rfl rfl ?_
    refine JL.callP H fb204 rfl rfl (withinD_c _ _ _ _) ?_
    intro w3 H _
    refine JL.want rfl rfl ?_
    refine JL.pure rfl rfl ?_
    refine JL.pure rfl rfl ?_
    refine JL.pure rfl rfl ?_
    refine JL.cases 17 rfl ?_ ?_
    · intro h17
      (try simp only [Bool.not_eq_true', Bool.not_eq_false', decide_eq_true_eq, decide_eq_false_iff_not] at h17)
      refine JL.pass rfl rfl rfl rfl ?_
      refine JL.pass rfl rfl rfl rfl ?_
      refine JL.pass rfl rfl rfl rfl ?_
      refine JL.pass rfl rfl rfl rfl ?_
      refine JL.pass rfl rfl rfl rfl ?_
      refine JL.pass rfl rfl rfl rfl ?_
      refine JL.pure rfl rfl ?_
      refine JL.nil ?_
      ((repeat refine Ex.normal_block ?_); refine Ex.next ?_)
      ((repeat refine JC.seq ?_); refine JC.cond rfl (fun _ => ?_) (fun h => by cases h))
      ((repeat refine JC.seq ?_); refine JC.region ?_)
      refine JL.pure rfl rfl ?_
      refine JL.nil ?_
      ((repeat refine Ex.normal_block ?_); refine Ex.next ?_)
      ((repeat refine JC.seq ?_); refine JC.ret ?_)
      (repeat (first | refine Ex.ret_then ?_ | refine Ex.ret_block ?_))
      refine Ex.ret1 rfl (.tmp rfl) ⟨?_, H.below⟩
      have hd : d.ok = false := by unfold Drifter.ok; simp_all <;> omega
      rw [hd]
      rfl
    · intro h17
      (try simp only [Bool.not_eq_true', Bool.not_eq_false', decide_eq_true_eq, decide_eq_false_iff_not] at h17)
      refine JL.want rfl rfl ?_
      refine JL.fieldAddr rfl Try.underlying86 rfl sh3 rfl ?_
      refine JL.want rfl rfl ?_
      refine JL.loadB 0 H rfl sh3 rfl rfl rfl ?_
      refine JL.want rfl rfl ?_
      refine JL.fieldAddr rfl Try.underlying86 rfl sh3 rfl ?_
      refine JL.want rfl rfl ?_
      refine JL.loadB 0 H rfl sh3 rfl rfl rfl ?_
      refine JL.want rfl rfl ?_
      refine JL.pure rfl rfl ?_
      refine JL.want rfl rfl ?_
      refine JL.pure rfl rfl ?_
      refine JL.pure rfl rfl ?_
      refine JL.nil ?_
      ((repeat refine Ex.normal_block ?_); refine Ex.next ?_)
      ((repeat refine JC.seq ?_); refine JC.cond rfl ?_ ?_)
      · intro h24
        (try simp only [Bool.not_eq_true', Bool.not_eq_false', decide_eq_true_eq, decide_eq_false_iff_not] at h24)
        ((repeat refine JC.seq ?_); refine JC.region ?_)
        refine JL.pure rfl rfl ?_
        refine JL.nil ?_
        ((repeat refine Ex.normal_block ?_); refine Ex.next ?_)
        ((repeat refine JC.seq ?_); refine JC.ret ?_)
        (repeat (first | refine Ex.ret_then ?_ | refine Ex.ret_block ?_))
        refine Ex.ret1 rfl (.tmp rfl) ⟨?_, H.below⟩
        have hd : d.ok = false := by unfold Drifter.ok; simp_all <;> omega
        rw [hd]
        rfl
      · intro h24
        (try simp only [Bool.not_eq_true', Bool.not_eq_false', decide_eq_true_eq, decide_eq_false_iff_not] at h24)
        ((repeat refine JC.seq ?_); refine JC.skip ?_)
        ((repeat refine Ex.normal_block ?_); refine Ex.next ?_)
        ((repeat refine JC.seq ?_); refine JC.region ?_)
        refine JL.pure rfl rfl ?_
        refine JL.nil ?_
        ((repeat refine Ex.normal_block ?_); refine Ex.next ?_)
        ((repeat refine JC.seq ?_); refine JC.ret ?_)
        (repeat (first | refine Ex.ret_then ?_ | refine Ex.ret_block ?_))
        refine Ex.ret1 rfl (.tmp rfl) ⟨?_, H.below⟩
        have hd : d.ok = true := by unfold Drifter.ok; simp_all <;> omega
        rw [hd]
        rfl
end Go.J

namespace Go.J
open Go.RowKit Go.Proofs
set_option maxRecDepth 8000
set_option linter.unusedSimpArgs false
set_option linter.unusedVariables false
/-! drift: flows -/
structure Flow where
  fr : Int
  to : Int
  wv : Value
  wh : List Run
  low : Spot
  high : Spot
def Flow.ev (f : Flow) : Value := .agg ⟨[.int .i64 f.fr, .int .i64 f.to, f.wv, .int .i64 f.low.X, .int .i64 f.low.Y, .int .i64 f.high.X, .int .i64 f.high.Y]⟩
def ordB (lo hi : Int) : Bool := decide (-100000 ≤ lo ∧ lo ≤ hi) && decide (hi ≤ 100000)
def flowB (g : Grid) (f : Flow) : Bool := decide (1 ≤ f.to ∧ f.to ≤ 1073741824) && decide (0 ≤ f.fr ∧ f.fr ≤ f.to - 1) && ordB f.low.X f.high.X && ordB f.low.Y f.high.Y && checkedB g [f.wh]
theorem ordered_c (lo hi : Int) (w : World) : Pur Try.prog 295 #[.int .i64 lo, .int .i64 hi] w (.bool (ordB lo hi)) := by
  refine pur_J (args := [.int .i64 lo, .int .i64 hi]) Try.func295 rfl Try.ntmps295 rfl ?_
  have H := Own.start w
  ((repeat refine JC.seq ?_); refine JC.region ?_)
  refine JL.pure rfl rfl ?_
  refine JL.nil ?_
  ((repeat refine Ex.normal_block ?_); refine Ex.next ?_)
  ((repeat refine JC.seq ?_); refine JC.region ?_)
  refine JL.pure rfl rfl ?_
  refine JL.pure rfl rfl ?_
  refine JL.callP H fb204 rfl rfl (withinD_c _ _ _ _) ?_
  intro w1 H _
  refine JL.pure rfl rfl ?_
  refine JL.cases 8 rfl ?_ ?_
  · intro h8
    (try simp only [Bool.not_eq_true', Bool.not_eq_false', decide_eq_true_eq, decide_eq_false_iff_not] at h8)
    refine JL.want rfl rfl ?_
    refine JL.pure rfl rfl ?_
    refine JL.want rfl rfl ?_
    refine JL.pure rfl rfl ?_
    refine JL.pure rfl rfl ?_
    refine JL.pure rfl rfl ?_
    refine JL.nil ?_
    ((repeat refine Ex.normal_block ?_); refine Ex.next ?_)
    ((repeat refine JC.seq ?_); refine JC.ret ?_)
    (repeat (first | refine Ex.ret_then ?_ | refine Ex.ret_block ?_))
    refine Ex.ret1 rfl (.tmp rfl) ⟨?_, H.below⟩
    unfold ordB
    simp [*]
  · intro h8
    (try simp only [Bool.not_eq_true', Bool.not_eq_false', decide_eq_true_eq, decide_eq_false_iff_not] at h8)
    refine JL.pass rfl rfl rfl rfl ?_
    refine JL.pass rfl rfl rfl rfl ?_
    refine JL.pure rfl rfl ?_
    refine JL.pure rfl rfl ?_
    refine JL.nil ?_
    ((repeat refine Ex.normal_block ?_); refine Ex.next ?_)
    ((repeat refine JC.seq ?_); refine JC.ret ?_)
    (repeat (first | refine Ex.ret_then ?_ | refine Ex.ret_block ?_))
    refine Ex.ret1 rfl (.tmp rfl) ⟨?_, H.below⟩
    unfold ordB
    simp [*]
theorem checkFlow_c (g : Grid) (lv : Value) (f : Flow) (w : World) (hl : SlR w lv g.land) (hf : SlR w f.wv f.wh) : Pur Try.prog 278 #[g.ev lv, f.ev] w (.bool (flowB g f)) := by
  obtain ⟨fr, to, wv, wh, low, high⟩ := f
  simp only at hf
  obtain ⟨fa, fc, rfl⟩ := hf.len
  obtain ⟨la, lc, rfl⟩ := hl.len
  refine pur_J (args := [g.ev (.slice la g.land.length lc), .agg ⟨[.int .i64 fr, .int .i64 to, .slice fa wh.length fc, .int .i64 low.X, .int .i64 low.Y, .int .i64 high.X, .int .i64 high.Y]⟩]) Try.func278 rfl Try.ntmps278 rfl ?_
  have H := Own.start w
  ((repeat refine JC.seq ?_); refine JC.region ?_)
  refine JL.box H rfl rfl rfl ?_
  intro b2 w1 H
  refine JL.box H rfl rfl rfl ?_
  intro b3 w2 H
  refine JL.pure rfl rfl ?_
  refine JL.nil ?_
  ((repeat refine Ex.normal_block ?_); refine Ex.next ?_)
  ((repeat refine JC.seq ?_); refine JC.region ?_)
  refine JL.pure rfl rfl ?_
  refine JL.nil ?_
  ((repeat refine Ex.normal_block ?_); refine Ex.next ?_)
  ((repeat refine JC.seq ?_); refine JC.region ?_)
  refine JL.fieldAddr rfl Try.underlying218 rfl sh3 rfl ?_
  refine JL.loadB 0 H rfl sh3 rfl rfl rfl ?_
  refine JL.callP H fb204 rfl rfl (withinD_c _ _ _ _) ?_
  intro w3 H _
  refine JL.pure rfl rfl ?_
  refine JL.cases 10 rfl ?_ ?_
  · intro h10
    (try simp only [Bool.not_eq_true', Bool.not_eq_false', decide_eq_true_eq, decide_eq_false_iff_not] at h10)
    have h10 : 1 ≤ to ∧ to ≤ 1073741824 := by simpa using h10
    refine JL.want rfl rfl ?_
    refine JL.fieldAddr rfl Try.underlying218 rfl sh3 rfl ?_
    refine JL.want rfl rfl ?_
    refine JL.loadB 0 H rfl sh3 rfl rfl rfl ?_
    refine JL.want rfl rfl ?_
    refine JL.fieldAddr rfl Try.underlying218 rfl sh3 rfl ?_
    refine JL.want rfl rfl ?_
    refine JL.loadB 0 H rfl sh3 rfl rfl rfl ?_
    refine JL.want rfl rfl ?_
    refine JL.arith rfl (by unfold In64; omega) rfl ?_
    refine JL.want rfl rfl ?_
    refine JL.callP H fb204 rfl rfl (withinD_c _ _ _ _) ?_
    intro w4 H _
    refine JL.pure rfl rfl ?_
    refine JL.pure rfl rfl ?_
    refine JL.nil ?_
    ((repeat refine Ex.normal_block ?_); refine Ex.next ?_)
    ((repeat refine JC.seq ?_); refine JC.region ?_)
    refine JL.pure rfl rfl ?_
    refine JL.pure rfl rfl ?_
    refine JL.cases 19 rfl ?_ ?_
    · intro h19
      (try simp only [Bool.not_eq_true', Bool.not_eq_false', decide_eq_true_eq, decide_eq_false_iff_not] at h19)
      refine JL.want rfl rfl ?_
      refine JL.pure rfl rfl ?_
      refine JL.want rfl rfl ?_
      refine JL.fieldAddr rfl Try.underlying218 rfl sh23 rfl ?_
      refine JL.want rfl rfl ?_
      refine JL.fieldAddr rfl Try.underlying23 rfl sh3 rfl ?_
      refine JL.want rfl rfl ?_
      refine JL.loadB 0 H rfl sh3 rfl rfl rfl ?_
      refine JL.want rfl rfl ?_
      refine JL.fieldAddr rfl Try.underlying218 rfl sh23 rfl ?_
      refine JL.want rfl rfl ?_
      refine JL.fieldAddr rfl Try.underlying23 rfl sh3 rfl ?_
      refine JL.want rfl rfl ?_
      refine JL.loadB 0 H rfl sh3 rfl rfl rfl ?_
      refine JL.want rfl rfl ?_
      refine JL.callvP H rfl fb295 rfl rfl (ordered_c _ _ _) ?_
      intro w5 H _
      refine JL.pure rfl rfl ?_
      refine JL.pure rfl rfl ?_
      refine JL.cases 29 rfl ?_ ?_
      · intro h29
        (try simp only [Bool.not_eq_true', Bool.not_eq_false', decide_eq_true_eq, decide_eq_false_iff_not] at h29)
        refine JL.want rfl rfl ?_
        refine JL.pure rfl rfl ?_
        refine JL.want rfl rfl ?_
        refine JL.fieldAddr rfl Try.underlying218 rfl sh23 rfl ?_
        refine JL.want rfl rfl ?_
        refine JL.fieldAddr rfl Try.underlying23 rfl sh3 rfl ?_
        refine JL.want rfl rfl ?_
        refine JL.loadB 0 H rfl sh3 rfl rfl rfl ?_
        refine JL.want rfl rfl ?_
        refine JL.fieldAddr rfl Try.underlying218 rfl sh23 rfl ?_
        refine JL.want rfl rfl ?_
        refine JL.fieldAddr rfl Try.underlying23 rfl sh3 rfl ?_
        refine JL.want rfl rfl ?_
        refine JL.loadB 0 H rfl sh3 rfl rfl rfl ?_
        refine JL.want rfl rfl ?_
        refine JL.callvP H rfl fb295 rfl rfl (ordered_c _ _ _) ?_
        intro w6 H _
        refine JL.pure rfl rfl ?_
        refine JL.pure rfl rfl ?_
        refine JL.cases 39 rfl ?_ ?_
        · intro h39
          (try simp only [Bool.not_eq_true', Bool.not_eq_false', decide_eq_true_eq, decide_eq_false_iff_not] at h39)
          refine JL.want rfl rfl ?_
          refine JL.loadB 1 H rfl sh52 rfl rfl rfl ?_
          refine JL.want rfl rfl ?_
          refine JL.fieldAddr rfl Try.underlying218 rfl sh50 rfl ?_
          refine JL.want rfl rfl ?_
          refine JL.loadB 0 H rfl sh50 rfl rfl rfl ?_
          refine JL.want rfl rfl ?_
          refine JL.callP H fb100 rfl rfl (checkRegion_c g _ _ wh _ (hl.grow H.below) (hf.grow H.below)) ?_
          intro w7 H _
          refine JL.want rfl rfl ?_
          refine JL.pure rfl rfl ?_
          refine JL.pure rfl rfl ?_
          refine JL.pure rfl rfl ?_
          refine JL.nil ?_
          ((repeat refine Ex.normal_block ?_); refine Ex.next ?_)
          ((repeat refine JC.seq ?_); refine JC.ret ?_)
          (repeat (first | refine Ex.ret_then ?_ | refine Ex.ret_block ?_))
          refine Ex.ret1 rfl (.tmp rfl) ⟨?_, H.below⟩
          unfold flowB
          simp only
          cases hck : checkedB g [wh] <;> simp_all <;> (intros; omega)
        · intro h39
          (try simp only [Bool.not_eq_true', Bool.not_eq_false', decide_eq_true_eq, decide_eq_false_iff_not] at h39)
          refine JL.pass rfl rfl rfl rfl ?_
          refine JL.pass rfl rfl rfl rfl ?_
          refine JL.pass rfl rfl rfl rfl ?_
          refine JL.pass rfl rfl rfl rfl ?_
          refine JL.pass rfl rfl rfl rfl ?_
          refine JL.pure rfl rfl ?_
          refine JL.pure rfl rfl ?_
          refine JL.nil ?_
          ((repeat refine Ex.normal_block ?_); refine Ex.next ?_)
          ((repeat refine JC.seq ?_); refine JC.ret ?_)
          (repeat (first | refine Ex.ret_then ?_ | refine Ex.ret_block ?_))
          refine Ex.ret1 rfl (.tmp rfl) ⟨?_, H.below⟩
          unfold flowB
          simp only
          cases hck : checkedB g [wh] <;> simp_all <;> (intros; omega)
      · intro h29
        (try simp only [Bool.not_eq_true', Bool.not_eq_false', decide_eq_true_eq, decide_eq_false_iff_not] at h29)
        refine JL.pass rfl rfl rfl rfl ?_
        refine JL.pass rfl rfl rfl rfl ?_
        refine JL.pass rfl rfl rfl rfl ?_
        refine JL.pass rfl rfl rfl rfl ?_
        refine JL.pass rfl rfl rfl rfl ?_
        refine JL.pass rfl rfl rfl rfl ?_
        refine JL.pass rfl rfl rfl rfl ?_
        refine JL.pass rfl rfl rfl rfl ?_
        refine JL.pure rfl rfl ?_
        refine JL.pure rfl rfl ?_
        refine JL.pass rfl rfl rfl rfl ?_
        refine JL.pass rfl rfl rfl rfl ?_
        refine JL.pass rfl rfl rfl rfl ?_
        refine JL.pass rfl rfl rfl rfl ?_
        refine JL.pass rfl rfl rfl rfl ?_
        refine JL.pure rfl rfl ?_
        refine JL.pure rfl rfl ?_
        refine JL.nil ?_
        ((repeat refine Ex.normal_block ?_); refine Ex.next ?_)
        ((repeat refine JC.seq ?_); refine JC.ret ?_)
        (repeat (first | refine Ex.ret_then ?_ | refine Ex.ret_block ?_))
        refine Ex.ret1 rfl (.tmp rfl) ⟨?_, H.below⟩
        unfold flowB
        simp only
        cases hck : checkedB g [wh] <;> simp_all <;> (intros; omega)
    · intro h19
      (try simp only [Bool.not_eq_true', Bool.not_eq_false', decide_eq_true_eq, decide_eq_false_iff_not] at h19)
      refine JL.pass rfl rfl rfl rfl ?_
      refine JL.pass rfl rfl rfl rfl ?_
      refine JL.pass rfl rfl rfl rfl ?_
      refine JL.pass rfl rfl rfl rfl ?_
      refine JL.pass rfl rfl rfl rfl ?_
      refine JL.pass rfl rfl rfl rfl ?_
      refine JL.pass rfl rfl rfl rfl ?_
      refine JL.pass rfl rfl rfl rfl ?_
      refine JL.pure rfl rfl ?_
      refine JL.pure rfl rfl ?_
      refine JL.pass rfl rfl rfl rfl ?_
      refine JL.pass rfl rfl rfl rfl ?_
      refine JL.pass rfl rfl rfl rfl ?_
      refine JL.pass rfl rfl rfl rfl ?_
      refine JL.pass rfl rfl rfl rfl ?_
      refine JL.pass rfl rfl rfl rfl ?_
      refine JL.pass rfl rfl rfl rfl ?_
      refine JL.pass rfl rfl rfl rfl ?_
      refine JL.pure rfl rfl ?_
      refine JL.pure rfl rfl ?_
      refine JL.pass rfl rfl rfl rfl ?_
      refine JL.pass rfl rfl rfl rfl ?_
      refine JL.pass rfl rfl rfl rfl ?_
      refine JL.pass rfl rfl rfl rfl ?_
      refine JL.pass rfl rfl rfl rfl ?_
      refine JL.pure rfl rfl ?_
      refine JL.pure rfl rfl ?_
      refine JL.nil ?_
      ((repeat refine Ex.normal_block ?_); refine Ex.next ?_)
      ((repeat refine JC.seq ?_); refine JC.ret ?_)
      (repeat (first | refine Ex.ret_then ?_ | refine Ex.ret_block ?_))
      refine Ex.ret1 rfl (.tmp rfl) ⟨?_, H.below⟩
      unfold flowB
      simp only
      cases hck : checkedB g [wh] <;> simp_all <;> (intros; omega)
  · intro h10
    (try simp only [Bool.not_eq_true', Bool.not_eq_false', decide_eq_true_eq, decide_eq_false_iff_not] at h10)
    
    refine JL.pass rfl rfl rfl rfl ?_
    refine JL.pass rfl rfl rfl rfl ?_
    refine JL.pass rfl rfl rfl rfl ?_
    refine JL.pass rfl rfl rfl rfl ?_
    refine JL.pass rfl rfl rfl rfl ?_
    refine JL.pass rfl rfl rfl rfl ?_
    refine JL.pure rfl rfl ?_
    refine JL.pure rfl rfl ?_
    refine JL.nil ?_
    ((repeat refine Ex.normal_block ?_); refine Ex.next ?_)
    ((repeat refine JC.seq ?_); refine JC.region ?_)
    refine JL.pure rfl rfl ?_
    refine JL.pure rfl rfl ?_
    refine JL.pass rfl rfl rfl rfl ?_
    refine JL.pass rfl rfl rfl rfl ?_
    refine JL.pass rfl rfl rfl rfl ?_
    refine JL.pass rfl rfl rfl rfl ?_
    refine JL.pass rfl rfl rfl rfl ?_
    refine JL.pass rfl rfl rfl rfl ?_
    refine JL.pass rfl rfl rfl rfl ?_
    refine JL.pass rfl rfl rfl rfl ?_
    refine JL.pure rfl rfl ?_
    refine JL.pure rfl rfl ?_
    refine JL.pass rfl rfl rfl rfl ?_
    refine JL.pass rfl rfl rfl rfl ?_
    refine JL.pass rfl rfl rfl rfl ?_
    refine JL.pass rfl rfl rfl rfl ?_
    refine JL.pass rfl rfl rfl rfl ?_
    refine JL.pass rfl rfl rfl rfl ?_
    refine JL.pass rfl rfl rfl rfl ?_
    refine JL.pass rfl rfl rfl rfl ?_
    refine JL.pure rfl rfl ?_
    refine JL.pure rfl rfl ?_
    refine JL.pass rfl rfl rfl rfl ?_
    refine JL.pass rfl rfl rfl rfl ?_
    refine JL.pass rfl rfl rfl rfl ?_
    refine JL.pass rfl rfl rfl rfl ?_
    refine JL.pass rfl rfl rfl rfl ?_
    refine JL.pure rfl rfl ?_
    refine JL.pure rfl rfl ?_
    refine JL.nil ?_
    ((repeat refine Ex.normal_block ?_); refine Ex.next ?_)
    ((repeat refine JC.seq ?_); refine JC.ret ?_)
    (repeat (first | refine Ex.ret_then ?_ | refine Ex.ret_block ?_))
    refine Ex.ret1 rfl (.tmp rfl) ⟨?_, H.below⟩
    unfold flowB
    simp only
    cases hck : checkedB g [wh] <;> simp_all <;> (intros; omega)
theorem checkFlows1_c (g : Grid) (lv : Value) (f : Flow) (β : Nat) (w : World) (hβ : β < w.heap.size) (hc : LdAt w β 0 (true, 4) (g.ev lv)) (hl : SlR w lv g.land) (hf : SlR w f.wv f.wh) : Pur Try.prog 277 #[f.ev, .pointer (some ⟨β, 0, none⟩)] w (.bool (!flowB g f)) := by
  obtain ⟨fa, fc, hfv⟩ := hf.len
  obtain ⟨fr, to, wv, wh, low, high⟩ := f
  simp only at hf hfv
  subst hfv
  refine pur_J (args := [.agg ⟨[.int .i64 fr, .int .i64 to, .slice fa wh.length fc, .int .i64 low.X, .int .i64 low.Y, .int .i64 high.X, .int .i64 high.Y]⟩, .pointer (some ⟨β, 0, none⟩)]) Try.func277 rfl Try.ntmps277 rfl ?_
  have H := Own.start w
  ((repeat refine JC.seq ?_); refine JC.region ?_)
  refine JL.box H rfl rfl rfl ?_
  intro b2 w1 H
  refine JL.pure rfl rfl ?_
  refine JL.nil ?_
  ((repeat refine Ex.normal_block ?_); refine Ex.next ?_)
  ((repeat refine JC.seq ?_); refine JC.region ?_)
  refine JL.load rfl sh52 (hc.grow hβ H.below) rfl ?_
  refine JL.loadB 0 H rfl sh218 rfl rfl rfl ?_
  refine JL.callP H fb278 rfl rfl (checkFlow_c g lv ⟨fr, to, .slice fa wh.length fc, wh, low, high⟩ _ (hl.grow H.below) (hf.grow H.below)) ?_
  intro w2 H _
  refine JL.pure rfl rfl ?_
  refine JL.pure rfl rfl ?_
  refine JL.nil ?_
  ((repeat refine Ex.normal_block ?_); refine Ex.next ?_)
  ((repeat refine JC.seq ?_); refine JC.ret ?_)
  (repeat (first | refine Ex.ret_then ?_ | refine Ex.ret_block ?_))
  refine Ex.ret1 rfl (.tmp rfl) ⟨rfl, H.below⟩

theorem index_flow (v : Value) (xs : List Flow) (p : Flow → Bool) (f : FuncId) (capt : List Value) (w : World) (hb : hasBody Try.prog f = true) (hv : Sl Flow.ev (true, 7) w v xs)
    (hp : ∀ w', Below w.heap.size w w' → ∀ x, x ∈ xs → Pur Try.prog f ([Flow.ev x] ++ capt).toArray w' (.bool (p x))) :
    Pur Try.prog 294 #[v, .func (.func f) #[] ⟨capt⟩] w (.int .i64 (if xs.any p then (xs.findIdx p : Int) else -1)) := by
  obtain ⟨hlen, a, cap, rfl, ha⟩ := hv
  refine pur_J (args := [.slice a xs.length cap, .func (.func f) #[] ⟨capt⟩]) Try.func294 rfl Try.ntmps294 rfl ?_
  have H := Own.start w
  ((repeat refine JC.seq ?_); refine JC.region ?_)
  refine JL.pure rfl rfl ?_
  refine JL.nil ?_
  ((repeat refine Ex.normal_block ?_); refine Ex.next ?_)
  ((repeat refine JC.seq ?_); refine JC.region ?_)
  refine JL.pure rfl rfl ?_
  refine JL.len rfl Try.underlying82 rfl ?_
  refine JL.pure rfl rfl ?_
  refine JL.nil ?_
  ((repeat refine Ex.normal_block ?_); refine Ex.next ?_)
  ((repeat refine JC.seq ?_); refine JC.block ?_)
  ((repeat refine JC.seq ?_); refine JC.loop (ι := Nat) (fun k => [(0, .slice a xs.length cap), (1, .func (.func f) #[] ⟨capt⟩), (7, .int .i64 xs.length), (8, .int .i64 k)])
    (fun k wr => k ≤ xs.length ∧ (∀ (j : Nat) (h : j < xs.length), j < k → p xs[j] = false) ∧ Own w wr [])
    (fun k => xs.length - k) 0 ?_ ?_ ?_)
  · exact ⟨rfl, rfl, rfl, rfl, trivial⟩
  · exact ⟨Nat.zero_le _, fun j _ h => by omega, H⟩
  · rintro k wr ⟨hk, hno, H⟩
    ((repeat refine JC.seq ?_); refine JC.region ?_)
    refine JL.pure rfl rfl ?_
    refine JL.nil ?_
    ((repeat refine Ex.normal_block ?_); refine Ex.next ?_)
    ((repeat refine JC.seq ?_); refine JC.cond rfl ?_ ?_)
    · intro h9
      (try simp only [Bool.not_eq_true', Bool.not_eq_false', decide_eq_true_eq, decide_eq_false_iff_not] at h9)
      have h9 : k < xs.length := by omega
      obtain ⟨β, off, rfl, hβ, hc⟩ := ha.resolve_left (by rintro rfl; simp at h9)
      have hx : xs[k]? = some xs[k] := by simp [h9]
      ((repeat refine JC.seq ?_); refine JC.skip ?_)
      ((repeat refine Ex.normal_block ?_); refine Ex.next ?_)
      ((repeat refine JC.seq ?_); refine JC.block ?_)
      ((repeat refine JC.seq ?_); refine JC.region ?_)
      refine JL.pure rfl rfl ?_
      refine JL.pure rfl rfl ?_
      refine JL.nil ?_
      ((repeat refine Ex.normal_block ?_); refine Ex.next ?_)
      ((repeat refine JC.seq ?_); refine JC.region ?_)
      refine JL.pure rfl rfl ?_
      refine JL.pure rfl rfl ?_
      refine JL.pure rfl rfl ?_
      refine JL.indexS k rfl rfl Try.underlying82 sh218 rfl h9 rfl ?_
      refine JL.load rfl sh218 ((hc k _ hx).grow hβ H.below) rfl ?_
      refine JL.callvP H rfl hb rfl rfl (hp _ H.below _ (List.getElem_mem h9)) ?_
      intro w1 H _
      refine JL.nil ?_
      ((repeat refine Ex.normal_block ?_); refine Ex.next ?_)
      ((repeat refine JC.seq ?_); refine JC.cond rfl ?_ ?_)
      · intro h16
        (try simp only [Bool.not_eq_true', Bool.not_eq_false', decide_eq_true_eq, decide_eq_false_iff_not] at h16)
        ((repeat refine JC.seq ?_); refine JC.region ?_)
        refine JL.pure rfl rfl ?_
        refine JL.pure rfl rfl ?_
        refine JL.nil ?_
        ((repeat refine Ex.normal_block ?_); refine Ex.next ?_)
        ((repeat refine JC.seq ?_); refine JC.ret ?_)
        (repeat (first | refine Ex.ret_then ?_ | refine Ex.ret_block ?_))
        refine Ex.ret1 rfl (.tmp rfl) ⟨?_, H.below⟩
        rw [if_pos (List.any_eq_true.2 ⟨_, List.getElem_mem h9, h16⟩), (List.findIdx_eq h9).2 ⟨h16, fun j hj => hno j (by omega) hj⟩]
      · intro h16
        (try simp only [Bool.not_eq_true', Bool.not_eq_false', decide_eq_true_eq, decide_eq_false_iff_not] at h16)
        ((repeat refine JC.seq ?_); refine JC.skip ?_)
        ((repeat refine Ex.normal_block ?_); refine Ex.next ?_)
        ((repeat refine JC.seq ?_); refine JC.region ?_)
        refine JL.arith rfl (by unfold In64; omega) rfl ?_
        refine JL.pure rfl rfl ?_
        refine JL.nil ?_
        (repeat refine Ex.normal_block ?_)
        refine Ex.again (k + 1) ⟨rfl, rfl, rfl, rfl, trivial⟩ ⟨h9, fun j h hj => ?_, H⟩ (by omega)
        by_cases hjk : j = k
        · subst hjk; exact h16
        · exact hno j h (by omega)
    · intro h9
      (try simp only [Bool.not_eq_true', Bool.not_eq_false', decide_eq_true_eq, decide_eq_false_iff_not] at h9)
      
      ((repeat refine JC.seq ?_); refine JC.exit ?_)
      (repeat (first | refine Ex.exit_then ?_ | refine Ex.exit_miss (by decide) ?_))
      refine Ex.exit_hit ?_
      ((repeat refine Ex.normal_block ?_); refine Ex.next ?_)
      ((repeat refine JC.seq ?_); refine JC.region ?_)
      refine JL.pure rfl rfl ?_
      refine JL.nil ?_
      ((repeat refine Ex.normal_block ?_); refine Ex.next ?_)
      ((repeat refine JC.seq ?_); refine JC.ret ?_)
      (repeat (first | refine Ex.ret_then ?_ | refine Ex.ret_block ?_))
      refine Ex.ret1 rfl (.tmp rfl) ⟨?_, H.below⟩
      rw [if_neg]
      intro hh
      obtain ⟨x, hx, hpx⟩ := List.any_eq_true.1 hh
      obtain ⟨j, hj, rfl⟩ := List.getElem_of_mem hx
      rw [hno j hj (by omega)] at hpx
      cases hpx
theorem contains_flow (v : Value) (xs : List Flow) (p : Flow → Bool) (f : FuncId) (capt : List Value) (w : World) (hb : hasBody Try.prog f = true) (hv : Sl Flow.ev (true, 7) w v xs)
    (hp : ∀ w', Below w.heap.size w w' → ∀ x, x ∈ xs → Pur Try.prog f ([Flow.ev x] ++ capt).toArray w' (.bool (p x))) :
    Pur Try.prog 276 #[v, .func (.func f) #[] ⟨capt⟩] w (.bool (xs.any p)) := by
  refine pur_J (args := [v, .func (.func f) #[] ⟨capt⟩]) Try.func276 rfl Try.ntmps276 rfl ?_
  have H := Own.start w
  ((repeat refine JC.seq ?_); refine JC.region ?_)
  refine JL.pure rfl rfl ?_
  refine JL.nil ?_
  ((repeat refine Ex.normal_block ?_); refine Ex.next ?_)
  ((repeat refine JC.seq ?_); refine JC.region ?_)
  refine JL.pure rfl rfl ?_
  refine JL.pure rfl rfl ?_
  refine JL.callP H fb294 rfl rfl (index_flow v xs p f capt _ hb (hv.grow H.below) (fun w2 h2 => hp _ (by have h1 := H.below; exact h1.trans (h2.mono h1.size)))) ?_
  intro w1 H _
  refine JL.pure rfl rfl ?_
  refine JL.pure rfl rfl ?_
  refine JL.nil ?_
  ((repeat refine Ex.normal_block ?_); refine Ex.next ?_)
  ((repeat refine JC.seq ?_); refine JC.ret ?_)
  (repeat (first | refine Ex.ret_then ?_ | refine Ex.ret_block ?_))
  refine Ex.ret1 rfl (.tmp rfl) ⟨?_, H.below⟩
  by_cases h : xs.any p = true
  · rw [if_pos h, h]; simp
  · rw [if_neg h, Bool.eq_false_iff.2 h]; rfl

end Go.J

namespace Go.J
set_option linter.unusedSimpArgs false
set_option linter.unusedVariables false
open Go.RowKit
section
variable {P : Program} {N : Sz} {ops : Array Oper} {Q : Exit → Act → World → Prop} {rest : List Oper} {fr : Fr} {w w0 : World} {L : List HP}
  {d : Option Tmp} {ty : TypeId} {pos : String} {af : Array Edge}
/-- an element, of one cell, of an array that is a value -/
theorem JL.index1 {x ix : Operand} {t e : TypeId} {len : Nat} {cs : List Value} {m : Int} {v : Value} (j : Nat) (hx : fr.ev x = some (.agg ⟨cs⟩)) (hi : fr.ev ix = some (.int .i64 m)) (hu : P.underlying t = some (.array len e)) (hs : tySh P e = some (false, 1)) (hm : m = (j : Int)) (hj : j < len)
    (hv : cs[j]? = some v) (hd : Fr.fits N d = true) (k : JL P N ops Q rest (fr.put d v) w) : JL P N ops Q (⟨d, .index t x ix, ty, pos, af, none⟩ :: rest) fr w := by
  subst hm
  refine JL.val rfl hd (fun a H => ?_) k
  have h1 : (j : Int) < len := by omega
  simp only [execOp, H.eval hx, H.eval hi]
  simp [Instr.index, asIntOf, run_underlying hu, part, (tySh_agg hs w).1, (tySh_agg hs w).2, h1, hv]
  exact fun h => absurd h (by omega)
end
section
variable {P : Program} {N : Sz} {ops : Array Oper} {Q : Exit → Act → World → Prop} {n : Nat} {es : List Nat} {Ls : Nat → List HP} {w0 : World} {fr0 : Nat → Fr} {Z : Fr → World → Prop}
variable {d : Option Tmp} {ty : TypeId} {pos : String} {af : Array Edge} {r : List Oper} {i : Nat} {ks : List Kn} {L : List HP}
theorem JD.index1 {x ix : Operand} {t e : TypeId} {len : Nat} {cs : List Value} {m : Int} {v : Value} (j : Nat) (hx : (frDet (depsOf af) ks (fr0 i)).ev x = some (.agg ⟨cs⟩)) (hi : (frDet (depsOf af) ks (fr0 i)).ev ix = some (.int .i64 m)) (hu : P.underlying t = some (.array len e))
    (hs : tySh P e = some (false, 1)) (hm : m = (j : Int)) (hj : j < len) (hv : cs[j]? = some v) (hd : Fr.fits N d = true)
    (k : JD P N ops Q n es Ls w0 fr0 Z r (i + 1) (.det i d v :: ks)) (he : neB es i = true := by rfl) (hs0 : noS ks i = true := by rfl) : JD P N ops Q n es Ls w0 fr0 Z (⟨d, .index t x ix, ty, pos, af, none⟩ :: r) i ks :=
  JD.det _ he hs0 (fun _ _ _ _ _ => JL.index1 j hx hi hu hs hm hj hv hd (JL.one (o := ⟨d, .index t x ix, ty, pos, af, none⟩) (Below.refl _ _))) k
end
end Go.J
