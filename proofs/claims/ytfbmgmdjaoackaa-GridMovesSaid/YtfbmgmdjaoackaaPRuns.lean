/-
  Lemmas for the statements of this seat; no statement is proved here. No condition.
-/
import Derived.Test.YtfbmgmdjaoackaaPReach
namespace Go.J
set_option linter.unusedSimpArgs false
set_option linter.unusedVariables false
/-! plain: the runs of a set, cell by cell -/
def rstep (s : Cell → Bool) (y : Int) (out : List Run) (x : Int) : List Run :=
  if s ⟨x, y⟩ then
    (match out.getLast? with
    | some l => if l.Y = y ∧ l.To = x then out.dropLast ++ [⟨l.Y, l.From, x + 1⟩] else out ++ [⟨y, x, x + 1⟩]
    | none => out ++ [⟨y, x, x + 1⟩])
  else out
def runRow1 (s : Cell → Bool) (y : Int) (out : List Run) (n : Nat) : List Run := (List.range n).foldl (fun o (k : Nat) => rstep s y o k) out
def runAll (s : Cell → Bool) (W : Nat) (n : Nat) : List Run := (List.range n).foldl (fun o (y : Nat) => runRow1 s y o W) []
theorem runRow1_succ (s : Cell → Bool) (y : Int) (out : List Run) (n : Nat) : runRow1 s y out (n + 1) = rstep s y (runRow1 s y out n) n := by
  unfold runRow1; rw [List.range_succ, List.foldl_append]; rfl
theorem runAll_succ (s : Cell → Bool) (W n : Nat) : runAll s W (n + 1) = runRow1 s n (runAll s W n) W := by
  unfold runAll; rw [List.range_succ, List.foldl_append]; rfl
/-- what stands when the cells ahead of (x, y) are done -/
structure RunsTo (s : Cell → Bool) (W H : Int) (x y : Int) (out : List Run) : Prop where
  canon : Canon W H out
  last : ∀ r ∈ out, r.Y < y ∨ r.Y = y ∧ r.To ≤ x
  has : ∀ c : Cell, hasB out c = true ↔ (0 ≤ c.X ∧ c.X < W) ∧ 0 ≤ c.Y ∧ (c.Y < y ∨ c.Y = y ∧ c.X < x) ∧ s c = true
theorem hasB_append {a b : List Run} {c : Cell} : hasB (a ++ b) c = true ↔ hasB a c = true ∨ hasB b c = true := by
  unfold hasB; rw [List.any_append, Bool.or_eq_true]
theorem hasB_one {r : Run} {c : Cell} : hasB [r] c = true ↔ r.Y = c.Y ∧ r.From ≤ c.X ∧ c.X < r.To := by
  rw [hasB_iff]; simp
theorem RunsTo.step {s : Cell → Bool} {W H : Int} {x y : Int} {out : List Run} (h : RunsTo s W H x y out) (hx : 0 ≤ x ∧ x < W) (hy : 0 ≤ y ∧ y < H) : RunsTo s W H (x + 1) y (rstep s y out x) := by
  unfold rstep
  cases hs : s ⟨x, y⟩ with
  | false =>
    simp only [Bool.false_eq_true, if_false]
    refine ⟨h.canon, fun r hr => by have := h.last r hr; omega, fun c => ?_⟩
    rw [h.has c]
    constructor
    · rintro ⟨h1, h2, h3, h4⟩; exact ⟨h1, h2, by omega, h4⟩
    · rintro ⟨h1, h2, h3, h4⟩
      refine ⟨h1, h2, ?_, h4⟩
      by_cases hc : c.Y = y ∧ c.X = x
      · exfalso
        have : c = ⟨x, y⟩ := by cases c; simp_all
        rw [this, hs] at h4; cases h4
      · omega
  | true =>
    simp only [if_true]
    have hnew : ∀ c : Cell, ((0 ≤ c.X ∧ c.X < W) ∧ 0 ≤ c.Y ∧ (c.Y < y ∨ c.Y = y ∧ c.X < x + 1) ∧ s c = true) ↔ ((0 ≤ c.X ∧ c.X < W) ∧ 0 ≤ c.Y ∧ (c.Y < y ∨ c.Y = y ∧ c.X < x) ∧ s c = true) ∨ (c.Y = y ∧ c.X = x) := by
      intro c
      constructor
      · rintro ⟨h1, h2, h3, h4⟩
        by_cases hc : c.Y = y ∧ c.X = x
        · exact .inr hc
        · exact .inl ⟨h1, h2, by omega, h4⟩
      · rintro (⟨h1, h2, h3, h4⟩ | ⟨h1, h2⟩)
        · exact ⟨h1, h2, by omega, h4⟩
        · have : c = ⟨x, y⟩ := by cases c; simp_all
          exact ⟨by omega, by omega, by omega, by rw [this]; exact hs⟩
    have happ : (∀ r ∈ out, r.Y < y ∨ r.Y = y ∧ r.To < x) → RunsTo s W H (x + 1) y (out ++ [⟨y, x, x + 1⟩]) := by
      intro hl
      refine ⟨⟨fun r hr => ?_, ?_⟩, fun r hr => ?_, fun c => ?_⟩
      · rcases List.mem_append.1 hr with hr | hr
        · exact h.canon.rng r hr
        · simp at hr; subst hr; simp only; omega
      · rw [List.pairwise_append]
        refine ⟨h.canon.ord, by simp, fun r hr t ht => ?_⟩
        simp at ht; subst ht
        exact hl r hr
      · rcases List.mem_append.1 hr with hr | hr
        · have := h.last r hr; omega
        · simp at hr; subst hr; exact .inr ⟨rfl, Int.le_refl _⟩
      · rw [hasB_append, h.has c, hasB_one, hnew c]
        refine or_congr_right ?_
        simp only
        omega
    rcases List.eq_nil_or_concat out with rfl | ⟨init, l, rfl⟩
    · exact happ (by simp)
    · simp only [List.concat_eq_append, List.getLast?_append, List.getLast?_singleton, Option.some_or, List.dropLast_concat] at *
      split
      · rename_i hj
        have hl := h.canon.rng l (by simp)
        have hord := h.canon.ord
        rw [List.pairwise_append] at hord
        refine ⟨⟨fun r hr => ?_, ?_⟩, fun r hr => ?_, fun c => ?_⟩
        · rcases List.mem_append.1 hr with hr | hr
          · exact h.canon.rng r (List.mem_append_left _ hr)
          · simp at hr; subst hr; simp only; omega
        · rw [List.pairwise_append]
          refine ⟨hord.1, by simp, fun r hr t ht => ?_⟩
          simp at ht; subst ht
          exact hord.2.2 r hr l (by simp)
        · rcases List.mem_append.1 hr with hr | hr
          · have := h.last r (List.mem_append_left _ hr); omega
          · simp at hr; subst hr; exact .inr ⟨hj.1, Int.le_refl _⟩
        · have hc := h.has c
          rw [hasB_append, hasB_one] at hc
          rw [hasB_append, hasB_one, hnew c, ← hc]
          simp only
          constructor
          · rintro (h | h)
            · exact .inl (.inl h)
            · rcases (show (l.Y = c.Y ∧ l.From ≤ c.X ∧ c.X < l.To) ∨ (c.Y = y ∧ c.X = x) by omega) with h | h
              · exact .inl (.inr h)
              · exact .inr h
          · rintro ((h | h) | h)
            · exact .inl h
            · exact .inr (by omega)
            · exact .inr (by omega)
      · rename_i hj
        refine happ fun r hr => ?_
        have h1 := h.last r hr
        rcases List.mem_append.1 hr with hr | hr
        · have h2 := h.canon.ord
          rw [List.pairwise_append] at h2
          have h3 := h2.2.2 r hr l (by simp)
          have h4 := h.last l (by simp)
          have h5 := h.canon.rng l (by simp)
          omega
        · simp at hr
          subst hr
          omega
theorem runAll_to {s : Cell → Bool} {W H : Int} (hW : 0 ≤ W) : ∀ n : Nat, (n : Int) ≤ H → RunsTo s W H 0 n (runAll s W.toNat n) := by
  intro n
  induction n with
  | zero =>
    intro _
    refine ⟨⟨by simp [runAll], by simp [runAll]⟩, by simp [runAll], fun c => ?_⟩
    constructor
    · intro h; simp [runAll, hasB] at h
    · rintro ⟨h1, h2, h3, _⟩; exfalso; simp at h3; omega
  | succ n ih =>
    intro hn
    rw [runAll_succ]
    have h0 := ih (by omega)
    have key : ∀ k : Nat, (k : Int) ≤ W → RunsTo s W H k n (runRow1 s n (runAll s W.toNat n) k) := by
      intro k
      induction k with
      | zero => intro _; exact h0
      | succ k ihk =>
        intro hk
        rw [runRow1_succ]
        have := (ihk (by omega)).step (by omega) (by omega)
        push_cast
        exact this
    have hW' := key W.toNat (by omega)
    refine ⟨hW'.canon, fun r hr => ?_, fun c => ?_⟩
    · have := hW'.last r hr; push_cast; omega
    · rw [hW'.has c]
      push_cast
      constructor
      · rintro ⟨h1, h2, h3, h4⟩; exact ⟨h1, h2, by omega, h4⟩
      · rintro ⟨h1, h2, h3, h4⟩; exact ⟨h1, h2, by omega, h4⟩
def runsR (g : Grid) (s : Cell → Bool) : List Run × Int := if (runAll s g.W.toNat g.H.toNat).length > 8192 then ([], 3) else (runAll s g.W.toNat g.H.toNat, 0)
theorem runAll_ok {g : Grid} (hW : 0 ≤ g.W) (hH : 0 ≤ g.H) (s : Cell → Bool) : Canon g.W g.H (runAll s g.W.toNat g.H.toNat) ∧ ∀ c, hasB (runAll s g.W.toNat g.H.toNat) c = true ↔ inG g c ∧ s c = true := by
  have h := runAll_to (s := s) (H := g.H) hW g.H.toNat (by omega)
  refine ⟨h.canon, fun c => ?_⟩
  rw [h.has c]
  unfold inG
  constructor
  · rintro ⟨h1, h2, h3, h4⟩; exact ⟨⟨h1, h2, by omega⟩, h4⟩
  · rintro ⟨⟨h1, h2, h3⟩, h4⟩; exact ⟨h1, h2, by omega, h4⟩
theorem regRes_runs {g : Grid} (hW : 0 ≤ g.W) (hH : 0 ≤ g.H) {T : Tab} {k : Nat} (hg : Tab.good g.W k T) (hl : Tab.low g.H T) (s : Cell → Bool) (h : ∀ c, hasB (regR T) c = true ↔ inG g c ∧ s c = true) : regRes T = runsR g s := by
  obtain ⟨h1, h2⟩ := runAll_ok hW hH s
  have : regR T = runAll s g.W.toNat g.H.toNat := canon_unique hW (regR_canon hg hl) h1 fun c => (h c).trans (h2 c).symm
  unfold regRes runsR
  rw [← this]
  split <;> split <;> first | rfl | omega
theorem runsR_congr {g : Grid} (hW : 0 ≤ g.W) (hH : 0 ≤ g.H) {s t : Cell → Bool} (h : ∀ c, inG g c → (s c = true ↔ t c = true)) : runsR g s = runsR g t := by
  obtain ⟨h1, h2⟩ := runAll_ok hW hH s
  obtain ⟨h3, h4⟩ := runAll_ok hW hH t
  have : runAll s g.W.toNat g.H.toNat = runAll t g.W.toNat g.H.toNat := canon_unique hW h1 h3 fun c => by
    rw [h2 c, h4 c]
    exact and_congr_right fun hc => h c hc
  unfold runsR
  rw [this]
end Go.J
