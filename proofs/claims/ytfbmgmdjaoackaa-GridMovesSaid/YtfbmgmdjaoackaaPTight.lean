/-
  Lemmas for the statements of this seat; no statement is proved here. No condition.
-/
import Derived.Test.YtfbmgmdjaoackaaPCov
import Derived.Test.YtfbmgmdjaoackaaG15
namespace Go.J
set_option linter.unusedSimpArgs false
set_option linter.unusedVariables false
def tot (T : Tab) : Nat → Nat
  | 0 => 0
  | y + 1 => tot T y + (T.getD y []).length
theorem outR_tot (T : Tab) : ∀ y, (outR T y).length ≤ tot T y := by
  intro y
  induction y with
  | zero => simp [outR, tot]
  | succ y ih =>
    rw [outR_succ, List.length_append]
    unfold tot
    have : (rowR T y).length ≤ (T.getD y []).length := by
      unfold rowR; rw [List.length_map]; exact norm_len _
    omega
theorem tot_add (T : Tab) (W H a b : Int) (z : Int) : ∀ y, tot (T.add W H z a b) y ≤ tot T y + (if z.toNat < y then 1 else 0) := by
  intro y
  unfold Tab.add
  split
  · induction y with
    | zero => simp [tot]
    | succ y ih =>
      unfold tot
      have hrow : ((T.set z.toNat (T.getD z.toNat [] ++ [⟨max 0 a, min b W⟩])).getD y []).length ≤ (T.getD y []).length + (if z.toNat = y then 1 else 0) := by
        by_cases hy : z.toNat = y
        · subst hy
          rw [if_pos rfl, List.getD_eq_getElem?_getD]
          by_cases hl : z.toNat < T.length
          · rw [List.getElem?_set_self hl]; simp
          · rw [List.getElem?_eq_none (by simp; omega)]; simp
        · rw [if_neg hy, List.getD_eq_getElem?_getD, List.getElem?_set_ne hy]; simp [List.getD_eq_getElem?_getD]
      split at ih <;> split at hrow <;> split <;> omega
  · split <;> omega
theorem tot_growRow (W H a b lo : Int) (T : Tab) (y : Nat) : ∀ n, tot (growRow W H a b lo T n) y ≤ tot T y + n := by
  intro n
  induction n with
  | zero => simp [growRow]
  | succ n ih =>
    rw [growRow_succ]
    have := tot_add (growRow W H a b lo T n) W H a b (lo + n) y
    split at this <;> omega
theorem tot0 : ∀ y, tot tab0 y = 0 := by
  intro y
  induction y with
  | zero => rfl
  | succ y ih =>
    unfold tot
    rw [ih]
    have : tab0.getD y [] = [] := by
      unfold tab0
      rw [List.getD_eq_getElem?_getD, List.getElem?_replicate]
      split <;> rfl
    rw [this]; rfl
/-- one run grows to no more than MaxRuns runs -/
theorem grow_one_fits {g : Grid} (hH : 1 ≤ g.H ∧ g.H ≤ 256) (l : Lead) (r : Run) : regRes (growT g l [r]) = (regR (growT g l [r]), 0) := by
  unfold regRes
  rw [if_pos]
  have h1 := outR_tot (growT g l [r]) 256
  have h2 : tot (growT g l [r]) 256 ≤ 256 := by
    show tot (growRow _ _ _ _ _ tab0 _) 256 ≤ 256
    have := tot_growRow g.W g.H (r.From + l.w) (r.To + l.e) (max 0 (r.Y + l.s)) tab0 256 (growCnt g l r)
    rw [tot0] at this
    have := growCnt_le hH l r
    omega
  unfold regR
  omega
theorem one_ok {g : Grid} {x y : Int} (hx : In64 x) (h : checkedB g [oneR x y] = true) : (0 ≤ x ∧ x < g.W) ∧ (0 ≤ y ∧ y < g.H) ∧ oneR x y = [⟨y, x, x + 1⟩] := by
  obtain ⟨h1, h2⟩ := checkedB_b h
  obtain ⟨hW, hH, hS, _⟩ := Grid.ok_b h1
  have h3 := rightB_mem (h2 (oneR x y) (by simp)) ⟨y, x, w64 (x + 1)⟩ (by simp [oneR])
  simp only at h3
  have h4 : x < 9223372036854775807 := by
    rcases Int.lt_or_le x 9223372036854775807 with h | h
    · exact h
    · exfalso
      have : x = 9223372036854775807 := by unfold In64 at hx; omega
      subst this
      have e : w64 (9223372036854775807 + 1) = -9223372036854775808 := by decide
      rw [e] at h3
      omega
  have h5 : w64 (x + 1) = x + 1 := w64_id (by unfold In64 at *; omega)
  rw [h5] at h3
  refine ⟨by omega, by omega, ?_⟩
  unfold oneR
  rw [h5]
theorem growR_one {g : Grid} {x y : Int} {p : Push} (hx : In64 x) : growR g (oneR x y) p = ([], false, 2) ∨ ((checkedB g [oneR x y] = true ∧ p.ok = true) ∧ growR g (oneR x y) p = (regR (growT g (leadOf g p) (oneR x y)), (oneR x y).any (offB g (leadOf g p)), 0)) := by
  unfold growR
  cases h1 : checkedB g [oneR x y] with
  | false => left; simp
  | true =>
    cases h2 : p.ok with
    | false => left; simp
    | true =>
      right
      refine ⟨⟨rfl, rfl⟩, ?_⟩
      obtain ⟨_, _, h5⟩ := one_ok hx h1
      obtain ⟨h6, _⟩ := checkedB_b h1
      rw [h5, grow_one_fits (Grid.ok_b h6).2.1]
      simp
theorem lead_le {a S low d : Int} (hS : 1 ≤ S) : a + low / S ≤ d ↔ a * S + low ≤ d * S + S - 1 := by
  have h1 := Int.emod_add_mul_ediv low S
  have h2 := Int.emod_nonneg low (show S ≠ 0 by omega)
  have h3 := Int.emod_lt_of_pos low (show 0 < S by omega)
  constructor
  · intro h
    have h4 : (a + low / S) * S ≤ d * S := Int.mul_le_mul_of_nonneg_right h (by omega)
    rw [Int.add_mul, Int.mul_comm (low / S) S] at h4
    omega
  · intro h
    rcases Int.lt_or_le d (a + low / S) with h5 | h5
    · exfalso
      have h6 : (d + 1) * S ≤ (a + low / S) * S := Int.mul_le_mul_of_nonneg_right (by omega) (by omega)
      rw [Int.add_mul, Int.add_mul, Int.mul_comm (low / S) S] at h6
      omega
    · exact h5
theorem lead_ge {a S high d : Int} (hS : 1 ≤ S) : d ≤ a + (S - 1 + high) / S ↔ d * S ≤ a * S + S - 1 + high := by
  have h1 := Int.emod_add_mul_ediv (S - 1 + high) S
  have h2 := Int.emod_nonneg (S - 1 + high) (show S ≠ 0 by omega)
  have h3 := Int.emod_lt_of_pos (S - 1 + high) (show 0 < S by omega)
  constructor
  · intro h
    have h4 : d * S ≤ (a + (S - 1 + high) / S) * S := Int.mul_le_mul_of_nonneg_right h (by omega)
    rw [Int.add_mul, Int.mul_comm ((S - 1 + high) / S) S] at h4
    omega
  · intro h
    rcases Int.lt_or_le (a + (S - 1 + high) / S) d with h5 | h5
    · exfalso
      have h6 : (a + (S - 1 + high) / S + 1) * S ≤ d * S := Int.mul_le_mul_of_nonneg_right (by omega) (by omega)
      rw [Int.add_mul, Int.add_mul, Int.mul_comm ((S - 1 + high) / S) S] at h6
      omega
    · exact h5
def reachesB (g : Grid) (p : Push) (c d : Cell) : Bool := reachB (c.X * g.S) (d.X * g.S) g.S p.Low.X p.High.X && reachB (c.Y * g.S) (d.Y * g.S) g.S p.Low.Y p.High.Y
theorem tight_grow {g : Grid} {p : Push} {c d : Cell} (hc : In64 c.X) (hd : In64 d.X) (h : (growR g (oneR c.X c.Y) p).2.2 = 0) (h' : (backR g (oneR d.X d.Y) p).2 = 0) :
    (0 ≤ c.X ∧ c.X < g.W) ∧ (0 ≤ c.Y ∧ c.Y < g.H) ∧ (0 ≤ d.X ∧ d.X < g.W) ∧ (0 ≤ d.Y ∧ d.Y < g.H) ∧ g.ok = true ∧ p.ok = true ∧ hasB (growR g (oneR c.X c.Y) p).1 d = reachesB g p c d ∧ hasB (backR g (oneR d.X d.Y) p).1 c = reachesB g p c d := by
  rcases growR_one (g := g) (y := c.Y) (p := p) hc with h1 | ⟨⟨h1, hp⟩, h2⟩
  · rw [h1] at h; cases h
  · unfold backR at h' ⊢
    rw [if_pos hp] at h' ⊢
    simp only at h' ⊢
    rcases growR_one (g := g) (y := d.Y) (p := ⟨⟨-p.High.X, -p.High.Y⟩, ⟨-p.Low.X, -p.Low.Y⟩⟩) hd with h3 | ⟨⟨h3, hp'⟩, h4⟩
    · rw [h3] at h'; cases h'
    · obtain ⟨c1, c2, c3⟩ := one_ok hc h1
      obtain ⟨d1, d2, d3⟩ := one_ok hd h3
      obtain ⟨hgok, _⟩ := checkedB_b h1
      obtain ⟨hW, hH, hS, _⟩ := Grid.ok_b hgok
      refine ⟨c1, c2, d1, d2, hgok, hp, ?_, ?_⟩
      · rw [h2]
        simp only
        rw [Bool.eq_iff_iff, growT_has hH, c3]
        simp only [List.mem_singleton, exists_eq_left, inGrow, leadOf, reachesB, reachB, Bool.and_eq_true, decide_eq_true_eq]
        have e1 := lead_le (a := c.X) (low := p.Low.X) (d := d.X) hS.1
        have e2 := lead_ge (a := c.X) (high := p.High.X) (d := d.X) hS.1
        have e3 := lead_le (a := c.Y) (low := p.Low.Y) (d := d.Y) hS.1
        have e4 := lead_ge (a := c.Y) (high := p.High.Y) (d := d.Y) hS.1
        constructor
        · rintro ⟨_, _, ⟨q1, q2⟩, q3, q4⟩
          have := e1.1 q3; have := e2.1 (by omega); have := e3.1 q1; have := e4.1 q2
          omega
        · rintro ⟨⟨q1, q2⟩, q3, q4⟩
          have := e1.2 (by omega); have := e2.2 (by omega); have := e3.2 (by omega); have := e4.2 (by omega)
          omega
      · rw [h4]
        simp only
        rw [Bool.eq_iff_iff, growT_has hH, d3]
        simp only [List.mem_singleton, exists_eq_left, inGrow, leadOf, reachesB, reachB, Bool.and_eq_true, decide_eq_true_eq]
        have e1 := lead_le (a := d.X) (low := -p.High.X) (d := c.X) hS.1
        have e2 := lead_ge (a := d.X) (high := -p.Low.X) (d := c.X) hS.1
        have e3 := lead_le (a := d.Y) (low := -p.High.Y) (d := c.Y) hS.1
        have e4 := lead_ge (a := d.Y) (high := -p.Low.Y) (d := c.Y) hS.1
        constructor
        · rintro ⟨_, _, ⟨q1, q2⟩, q3, q4⟩
          have := e1.1 q3; have := e2.1 (by omega); have := e3.1 q1; have := e4.1 q2
          omega
        · rintro ⟨⟨q1, q2⟩, q3, q4⟩
          have := e1.2 (by omega); have := e2.2 (by omega); have := e3.2 (by omega); have := e4.2 (by omega)
          omega
theorem tight_err {g : Grid} {p : Push} {c d : Cell} (hc : In64 c.X) (hd : In64 d.X) : ((growR g (oneR c.X c.Y) p).2.2 = 0 ∨ (growR g (oneR c.X c.Y) p).2.2 = 2) ∧ ((backR g (oneR d.X d.Y) p).2 = 0 ∨ (backR g (oneR d.X d.Y) p).2 = 2) := by
  constructor
  · rcases growR_one (g := g) (y := c.Y) (p := p) hc with h1 | ⟨_, h2⟩
    · right; rw [h1]
    · left; rw [h2]
  · unfold backR
    split
    · rcases growR_one (g := g) (y := d.Y) (p := ⟨⟨-p.High.X, -p.High.Y⟩, ⟨-p.Low.X, -p.Low.Y⟩⟩) hd with h1 | ⟨_, h2⟩
      · right; rw [h1]
      · left; rw [h2]
    · right; rfl
theorem growR_len (g : Grid) (r : List Run) (p : Push) : (growR g r p).1.length ≤ 8192 := by
  unfold growR
  split
  · split
    · unfold regRes; split <;> simp_all
    · simp
  · simp
theorem backR_len (g : Grid) (r : List Run) (p : Push) : (backR g r p).1.length ≤ 8192 := by
  unfold backR
  split
  · exact growR_len _ _ _
  · simp
end Go.J
