/-
  Lemmas for the statements of this seat; no statement is proved here. No condition.
-/
import Derived.Test.YtfbmgmdjaoackaaG14
namespace Go.J
set_option linter.unusedSimpArgs false
set_option linter.unusedVariables false
/-! plain: which cells a table's region has -/
def tabCov (T : Tab) (y : Nat) (x : Int) : Prop := spCov (T.getD y []) x
theorem tabCov0 (y : Nat) (x : Int) : ¬ tabCov tab0 y x := by
  rintro ⟨s, hs, _⟩
  have : tab0.getD y [] = [] := by
    unfold tab0
    rw [List.getD_eq_getElem?_getD, List.getElem?_replicate]
    split <;> rfl
  rw [this] at hs
  cases hs
theorem hasB_iff {rs : List Run} {c : Cell} : hasB rs c = true ↔ ∃ r ∈ rs, r.Y = c.Y ∧ r.From ≤ c.X ∧ c.X < r.To := by
  unfold hasB Run.has
  simp [List.any_eq_true, and_assoc]
theorem mem_getD {T : Tab} {y : Nat} {s : Span} (h : s ∈ T.getD y []) : ∃ l ∈ T, s ∈ l := by
  rw [List.getD_eq_getElem?_getD] at h
  cases hx : T[y]? with
  | none => rw [hx] at h; cases h
  | some l => rw [hx] at h; exact ⟨l, List.mem_of_getElem? hx, h⟩
theorem regR_has {W : Int} {k : Nat} {T : Tab} (hg : Tab.good W k T) (c : Cell) : hasB (regR T) c = true ↔ 0 ≤ c.Y ∧ c.Y < 256 ∧ tabCov T c.Y.toNat c.X := by
  rw [hasB_iff]
  have hn : ∀ y, ∀ x, spCov (norm (T.getD y [])) x ↔ spCov (T.getD y []) x := fun y => (norm_ok (l := T.getD y []) fun s hs => by
    obtain ⟨l, hl, hs'⟩ := mem_getD hs
    exact (hg.ne l hl s hs').1).2
  constructor
  · rintro ⟨r, hr, h1, h2, h3⟩
    unfold regR outR at hr
    rw [List.mem_flatMap] at hr
    obtain ⟨y, hy, hr⟩ := hr
    rw [List.mem_range] at hy
    unfold rowR at hr
    rw [List.mem_map] at hr
    obtain ⟨s, hs, rfl⟩ := hr
    simp only at h1 h2 h3
    refine ⟨by omega, by omega, ?_⟩
    rw [show c.Y.toNat = y by omega]
    exact (hn y c.X).1 ⟨s, hs, h2, h3⟩
  · rintro ⟨h1, h2, h3⟩
    obtain ⟨s, hs, h4, h5⟩ := (hn c.Y.toNat c.X).2 h3
    refine ⟨⟨(c.Y.toNat : Int), s.a, s.b⟩, ?_, by simp only; omega, h4, h5⟩
    unfold regR outR
    rw [List.mem_flatMap]
    refine ⟨c.Y.toNat, by rw [List.mem_range]; omega, ?_⟩
    unfold rowR
    rw [List.mem_map]
    exact ⟨s, hs, rfl⟩
theorem add_cov {T : Tab} (hT : T.length = 256) {W H y a b : Int} (hH : H ≤ 256) (Y : Nat) (x : Int) : tabCov (T.add W H y a b) Y x ↔ tabCov T Y x ∨ ((0 ≤ y ∧ y ≤ H - 1) ∧ (Y : Int) = y ∧ max 0 a ≤ x ∧ x < min b W) := by
  unfold Tab.add tabCov
  split
  · rename_i hc
    by_cases hY : Y = y.toNat
    · subst hY
      have hlt : y.toNat < T.length := by omega
      rw [show (T.set y.toNat (T.getD y.toNat [] ++ [⟨max 0 a, min b W⟩])).getD y.toNat [] = T.getD y.toNat [] ++ [⟨max 0 a, min b W⟩] by
        rw [List.getD_eq_getElem?_getD, List.getElem?_set_self hlt]; rfl]
      rw [spCov_append, spCov_one]
      constructor
      · rintro (h | h)
        · exact .inl h
        · exact .inr ⟨hc.1, by omega, h⟩
      · rintro (h | h)
        · exact .inl h
        · exact .inr h.2.2
    · rw [show (T.set y.toNat (T.getD y.toNat [] ++ [⟨max 0 a, min b W⟩])).getD Y [] = T.getD Y [] by
        rw [List.getD_eq_getElem?_getD, List.getElem?_set_ne (fun h => hY h.symm)]; simp [List.getD_eq_getElem?_getD]]
      constructor
      · exact .inl
      · rintro (h | h)
        · exact h
        · exfalso; omega
  · rename_i hc
    constructor
    · exact .inl
    · rintro (h | h)
      · exact h
      · exfalso; apply hc; omega
theorem growRow_cov {T : Tab} {W H a b lo : Int} {k : Nat} (hg : Tab.good W k T) (hH : H ≤ 256) (Y : Nat) (x : Int) : ∀ n, tabCov (growRow W H a b lo T n) Y x ↔ tabCov T Y x ∨ ((0 ≤ (Y : Int) ∧ (Y : Int) ≤ H - 1) ∧ lo ≤ Y ∧ (Y : Int) < lo + n ∧ max 0 a ≤ x ∧ x < min b W) := by
  intro n
  induction n with
  | zero =>
    constructor
    · exact .inl
    · rintro (h | h)
      · exact h
      · exfalso; omega
  | succ n ih =>
    rw [growRow_succ, add_cov (growRow_good hg n).len hH, ih]
    constructor
    · rintro ((h | h) | h)
      · exact .inl h
      · exact .inr (by omega)
      · exact .inr (by omega)
    · rintro (h | h)
      · exact .inl (.inl h)
      · by_cases hy : (Y : Int) = lo + n
        · exact .inr (by omega)
        · exact .inl (.inr (by omega))
/-- the cells that a run grows to -/
def inGrow (g : Grid) (l : Lead) (r : Run) (c : Cell) : Prop := (0 ≤ c.Y ∧ c.Y ≤ g.H - 1) ∧ (0 ≤ c.X ∧ c.X < g.W) ∧ (r.Y + l.s ≤ c.Y ∧ c.Y ≤ r.Y + l.n) ∧ r.From + l.w ≤ c.X ∧ c.X < r.To + l.e
theorem grow1_cov {g : Grid} (hH : 1 ≤ g.H ∧ g.H ≤ 256) {T : Tab} {k : Nat} (hg : Tab.good g.W k T) (l : Lead) (r : Run) (c : Cell) (hc : 0 ≤ c.Y) : tabCov (grow1 g l T r) c.Y.toNat c.X ↔ tabCov T c.Y.toNat c.X ∨ inGrow g l r c := by
  unfold grow1 inGrow
  rw [growRow_cov hg hH.2]
  unfold growCnt
  constructor
  · rintro (h | h)
    · exact .inl h
    · exact .inr (by omega)
  · rintro (h | h)
    · exact .inl h
    · exact .inr (by omega)
theorem growT_cov {g : Grid} (hH : 1 ≤ g.H ∧ g.H ≤ 256) (l : Lead) (c : Cell) (hc : 0 ≤ c.Y) : ∀ (rs : List Run) (T : Tab) (k : Nat), Tab.good g.W k T → (tabCov (rs.foldl (grow1 g l) T) c.Y.toNat c.X ↔ tabCov T c.Y.toNat c.X ∨ ∃ r ∈ rs, inGrow g l r c) := by
  intro rs
  induction rs with
  | nil => intro T k _; simp
  | cons r rs ih =>
    intro T k hT
    have h1 : Tab.good g.W (k + growCnt g l r) (grow1 g l T r) := growRow_good hT _
    rw [List.foldl_cons, ih _ _ h1, grow1_cov hH hT l r c hc]
    simp only [List.mem_cons]
    constructor
    · rintro ((h | h) | ⟨q, hq, h⟩)
      · exact .inl h
      · exact .inr ⟨r, .inl rfl, h⟩
      · exact .inr ⟨q, .inr hq, h⟩
    · rintro (h | ⟨q, rfl | hq, h⟩)
      · exact .inl (.inl h)
      · exact .inl (.inr h)
      · exact .inr ⟨q, hq, h⟩
theorem growT_has {g : Grid} (hH : 1 ≤ g.H ∧ g.H ≤ 256) (l : Lead) (rs : List Run) (c : Cell) : hasB (regR (growT g l rs)) c = true ↔ ∃ r ∈ rs, inGrow g l r c := by
  have hg := growT_good hH l rs rs.length (Nat.le_refl _)
  rw [List.take_length] at hg
  rw [regR_has hg]
  constructor
  · rintro ⟨h1, h2, h3⟩
    rcases (growT_cov hH l c h1 rs tab0 0 (tab0_good _)).1 h3 with h | h
    · exact absurd h (tabCov0 _ _)
    · exact h
  · rintro ⟨r, hr, h⟩
    have h1 := h
    unfold inGrow at h1
    exact ⟨h1.1.1, by omega, (growT_cov hH l c h1.1.1 rs tab0 0 (tab0_good _)).2 (.inr ⟨r, hr, h⟩)⟩
end Go.J
