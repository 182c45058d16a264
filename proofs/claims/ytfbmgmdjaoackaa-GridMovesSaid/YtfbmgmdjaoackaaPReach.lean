/-
  Lemmas for the statements of this seat; no statement is proved here. No condition.
-/
import Derived.Test.YtfbmgmdjaoackaaPMore
namespace Go.J
set_option linter.unusedSimpArgs false
set_option linter.unusedVariables false
/-! plain: discs and half planes -/
def rootGo (n : Int) : Nat → Int → Int → Int
  | 0, low, _ => low
  | f + 1, low, high => if high - low > 1 then (if (low + high) / 2 * ((low + high) / 2) ≤ n then rootGo n f ((low + high) / 2) high else rootGo n f low ((low + high) / 2)) else low
def rootI (n : Int) : Int := rootGo n 32 0 2147483648
theorem rootGo_ok (n : Int) : ∀ (f : Nat) (low high : Int), 0 ≤ low → low < high → low * low ≤ n → n < high * high → high - low ≤ 2 ^ f →
    0 ≤ rootGo n f low high ∧ rootGo n f low high * rootGo n f low high ≤ n ∧ n < (rootGo n f low high + 1) * (rootGo n f low high + 1) := by
  intro f
  induction f with
  | zero =>
    intro low high h0 h1 h2 h3 h4
    have : high = low + 1 := by simp at h4; omega
    subst this
    exact ⟨h0, h2, h3⟩
  | succ f ih =>
    intro low high h0 h1 h2 h3 h4
    unfold rootGo
    rw [Int.pow_succ] at h4
    split
    · rename_i hd
      split
      · rename_i hm
        exact ih _ _ (by omega) (by omega) hm h3 (by omega)
      · rename_i hm
        exact ih _ _ h0 (by omega) h2 (by omega) (by omega)
    · have : high = low + 1 := by omega
      subst this
      exact ⟨h0, h2, h3⟩
theorem rootI_ok {n : Int} (h0 : 0 ≤ n) (h : n < 4611686018427387904) : 0 ≤ rootI n ∧ rootI n * rootI n ≤ n ∧ n < (rootI n + 1) * (rootI n + 1) :=
  rootGo_ok n 32 0 2147483648 (by omega) (by omega) (by omega) (by omega) (by decide)
theorem sq_le {a b : Int} (ha : 0 ≤ a) (hb : 0 ≤ b) : a ≤ b ↔ a * a ≤ b * b := by
  constructor
  · intro h; exact Int.mul_le_mul h h ha hb
  · intro h
    rcases Int.lt_or_le b a with h1 | h1
    · exfalso
      have h2 : (b + 1) * (b + 1) ≤ a * a := Int.mul_le_mul (by omega) (by omega) (by omega) ha
      rw [Int.add_mul, Int.mul_add] at h2
      omega
    · exact h1
theorem root_le {n x : Int} (h0 : 0 ≤ n) (h : n < 4611686018427387904) (hx : 0 ≤ x) : x ≤ rootI n ↔ x * x ≤ n := by
  obtain ⟨h1, h2, h3⟩ := rootI_ok h0 h
  constructor
  · intro hh; have := (sq_le hx h1).1 hh; omega
  · intro hh
    rcases Int.lt_or_le (rootI n) x with h4 | h4
    · exfalso
      have := (sq_le (show 0 ≤ rootI n + 1 by omega) hx).1 (by omega)
      omega
    · exact h4
def awayI (S n cell : Int) : Int := max (max 0 (cell * S - n)) (n - cell * S - S + 1)
def discRow (g : Grid) (s : Spot) (radius y : Int) : Int × Int :=
  if awayI g.S s.Y y > radius then (0, -1) else ((s.X - rootI (radius * radius - awayI g.S s.Y y * awayI g.S s.Y y)) / g.S, (s.X + rootI (radius * radius - awayI g.S s.Y y * awayI g.S s.Y y)) / g.S)
/-- rows of one run each: always short enough -/
theorem tot_fill (W H : Int) (F : Int → Int × Int) (n : Nat) (y : Nat) : tot (fillT W H F n) y ≤ n := by
  induction n with
  | zero => rw [show fillT W H F 0 = tab0 from rfl, tot0]; exact Nat.le_refl _
  | succ n ih =>
    rw [fillT_succ]
    have := tot_add (fillT W H F n) W H (F n).1 ((F n).2 + 1) n y
    split at this <;> omega
theorem fill_fits (W H : Int) (F : Int → Int × Int) (n : Nat) (hn : n ≤ 256) : regRes (fillT W H F n) = (regR (fillT W H F n), 0) := by
  unfold regRes
  rw [if_pos]
  have h1 := outR_tot (fillT W H F n) 256
  have h2 := tot_fill W H F n 256
  unfold regR
  omega
theorem fill_cov {W H : Int} (hH : H ≤ 256) (F : Int → Int × Int) (Y : Nat) (x : Int) : ∀ n : Nat, (n : Int) ≤ H → (tabCov (fillT W H F n) Y x ↔ Y < n ∧ max 0 (F Y).1 ≤ x ∧ x < min ((F Y).2 + 1) W) := by
  intro n
  induction n with
  | zero =>
    intro _
    constructor
    · intro h; exact absurd h (tabCov0 _ _)
    · rintro ⟨h, _⟩; omega
  | succ n ih =>
    intro hn
    rw [fillT_succ, add_cov (fillT_good W H F n).len hH, ih (by omega)]
    constructor
    · rintro (h | ⟨h1, h2, h3⟩)
      · exact ⟨by omega, h.2⟩
      · have : Y = n := by omega
        subst this
        exact ⟨by omega, h3⟩
    · rintro ⟨h1, h2⟩
      by_cases hY : Y = n
      · subst hY; exact .inr ⟨by omega, rfl, h2⟩
      · exact .inl ⟨by omega, h2⟩
theorem fill_low (W H : Int) (F : Int → Int × Int) : ∀ n, Tab.low H (fillT W H F n) := by
  intro n
  induction n with
  | zero => exact tab0_low _
  | succ n ih => rw [fillT_succ]; exact ih.add _ _ _ _
theorem fill_has {g : Grid} (hH : 1 ≤ g.H ∧ g.H ≤ 256) (F : Int → Int × Int) (c : Cell) : hasB (regR (fillT g.W g.H F g.H.toNat)) c = true ↔ inG g c ∧ (F c.Y).1 ≤ c.X ∧ c.X ≤ (F c.Y).2 := by
  rw [regR_has (fillT_good g.W g.H F g.H.toNat)]
  unfold inG
  constructor
  · rintro ⟨h1, h2, h3⟩
    have h4 := (fill_cov hH.2 F c.Y.toNat c.X g.H.toNat (by omega)).1 h3
    rw [show ((c.Y.toNat : Nat) : Int) = c.Y by omega] at h4
    omega
  · rintro ⟨⟨h1, h2⟩, h3⟩
    refine ⟨by omega, by omega, (fill_cov hH.2 F c.Y.toNat c.X g.H.toNat (by omega)).2 ?_⟩
    rw [show ((c.Y.toNat : Nat) : Int) = c.Y by omega]
    omega
def discR (g : Grid) (s : Spot) (radius : Int) : List Run × Int := if g.ok && s.ok && decide (0 ≤ radius ∧ radius ≤ 16777216) then regRes (fillT g.W g.H (discRow g s radius) g.H.toNat) else ([], 2)
theorem mul_dist {a b S : Int} : (a + b) * S = a * S + b * S := Int.add_mul _ _ _
theorem Spot.ok_b {s : Spot} (h : s.ok = true) : (-16777216 ≤ s.X ∧ s.X ≤ 16777216) ∧ (-16777216 ≤ s.Y ∧ s.Y ≤ 16777216) := by unfold Spot.ok at h; simpa using h
theorem disc_has {g : Grid} (hg : g.ok = true) {s : Spot} {radius : Int} (hr : 0 ≤ radius ∧ radius ≤ 16777216) (c : Cell) :
    hasB (regR (fillT g.W g.H (discRow g s radius) g.H.toNat)) c = true ↔ inG g c ∧ awayI g.S s.X c.X * awayI g.S s.X c.X + awayI g.S s.Y c.Y * awayI g.S s.Y c.Y ≤ radius * radius := by
  obtain ⟨hW, hH, hS, _⟩ := Grid.ok_b hg
  rw [fill_has hH]
  refine and_congr_right fun _ => ?_
  obtain ⟨dx, hdx⟩ : ∃ dx, dx = awayI g.S s.X c.X := ⟨_, rfl⟩
  obtain ⟨dy, hdy⟩ : ∃ dy, dy = awayI g.S s.Y c.Y := ⟨_, rfl⟩
  have hx0 : 0 ≤ dx := by rw [hdx]; unfold awayI; omega
  have hy0 : 0 ≤ dy := by rw [hdy]; unfold awayI; omega
  unfold discRow
  rw [← hdx, ← hdy]
  have hxx : 0 ≤ dx * dx := Int.mul_nonneg hx0 hx0
  have hyy : 0 ≤ dy * dy := Int.mul_nonneg hy0 hy0
  have hrr : radius * radius ≤ 16777216 * 16777216 := Int.mul_le_mul hr.2 hr.2 hr.1 (by omega)
  split
  · rename_i h
    simp only
    have h1 : (radius + 1) * (radius + 1) ≤ dy * dy := (sq_le (by omega) hy0).1 (by omega)
    rw [Int.add_mul, Int.mul_add] at h1
    constructor
    · rintro ⟨h2, h3⟩; omega
    · intro h2; omega
  · rename_i h
    have h1 : dy * dy ≤ radius * radius := (sq_le hy0 hr.1).1 (by omega)
    have h2 := root_le (n := radius * radius - dy * dy) (x := dx) (by omega) (by omega) hx0
    obtain ⟨w, hw⟩ : ∃ w, w = rootI (radius * radius - dy * dy) := ⟨_, rfl⟩
    have hw0 : 0 ≤ w := by rw [hw]; exact (rootI_ok (by omega) (by omega)).1
    rw [← hw] at h2 ⊢
    simp only
    rw [show dx * dx + dy * dy ≤ radius * radius ↔ dx ≤ w by rw [h2]; omega]
    rw [hdx]
    unfold awayI
    have e1 : (s.X - w) / g.S ≤ c.X ↔ s.X - w < (c.X + 1) * g.S := by
      rw [← Int.lt_add_one_iff, Int.ediv_lt_iff_lt_mul (by omega)]
    have e2 : c.X ≤ (s.X + w) / g.S ↔ c.X * g.S ≤ s.X + w := Int.le_ediv_iff_mul_le (by omega)
    rw [e1, e2, Int.add_mul]
    omega
/-- is a cell to the left of a line? -/
def leftI (g : Grid) (a b : Spot) (c : Cell) : Bool :=
  decide (0 ≤ (b.X - a.X) * ((if b.X - a.X > 0 then c.Y * g.S + (g.S - 1) else c.Y * g.S) - a.Y) - (b.Y - a.Y) * ((if b.Y - a.Y < 0 then c.X * g.S + (g.S - 1) else c.X * g.S) - a.X))
def upTo (p : Int → Bool) (to : Int) : Nat → Int → Int
  | 0, a => a
  | f + 1, a => if a ≤ to ∧ p a = false then upTo p to f (a + 1) else a
def downTo (p : Int → Bool) (fr : Int) : Nat → Int → Int
  | 0, a => a
  | f + 1, a => if fr ≤ a ∧ p a = false then downTo p fr f (a - 1) else a
theorem upTo_ok (p : Int → Bool) (to : Int) : ∀ (f : Nat) (a : Int), to - a < f → a ≤ upTo p to f a ∧ upTo p to f a ≤ max a (to + 1) ∧ (∀ x, a ≤ x → x < upTo p to f a → p x = false) ∧ (upTo p to f a ≤ to → p (upTo p to f a) = true) := by
  intro f
  induction f with
  | zero => intro a h; exact ⟨Int.le_refl _, by simp only [upTo]; omega, fun x h1 h2 => by simp only [upTo] at h2; omega, fun h1 => by simp only [upTo] at h1; omega⟩
  | succ f ih =>
    intro a h
    unfold upTo
    split
    · rename_i hc
      obtain ⟨h1, h2, h3, h4⟩ := ih (a + 1) (by omega)
      refine ⟨by omega, by omega, fun x hx hx2 => ?_, h4⟩
      by_cases hxa : x = a
      · subst hxa; exact hc.2
      · exact h3 x (by omega) hx2
    · rename_i hc
      refine ⟨Int.le_refl _, by omega, fun x h1 h2 => by omega, fun h1 => ?_⟩
      cases hp : p a with
      | true => rfl
      | false => exact absurd ⟨h1, hp⟩ hc
theorem downTo_ok (p : Int → Bool) (fr : Int) : ∀ (f : Nat) (a : Int), a - fr < f → downTo p fr f a ≤ a ∧ min a (fr - 1) ≤ downTo p fr f a ∧ (∀ x, x ≤ a → downTo p fr f a < x → p x = false) ∧ (fr ≤ downTo p fr f a → p (downTo p fr f a) = true) := by
  intro f
  induction f with
  | zero => intro a h; exact ⟨Int.le_refl _, by simp only [downTo]; omega, fun x h1 h2 => by simp only [downTo] at h2; omega, fun h1 => by simp only [downTo] at h1; omega⟩
  | succ f ih =>
    intro a h
    unfold downTo
    split
    · rename_i hc
      obtain ⟨h1, h2, h3, h4⟩ := ih (a - 1) (by omega)
      refine ⟨by omega, by omega, fun x hx hx2 => ?_, h4⟩
      by_cases hxa : x = a
      · subst hxa; exact hc.2
      · exact h3 x (by omega) hx2
    · rename_i hc
      refine ⟨Int.le_refl _, by omega, fun x h1 h2 => by omega, fun h1 => ?_⟩
      cases hp : p a with
      | true => rfl
      | false => exact absurd ⟨h1, hp⟩ hc
def halfFrom (g : Grid) (a b : Spot) (y : Int) : Int := upTo (fun x => leftI g a b ⟨x, y⟩) (g.W - 1) (g.W.toNat + 1) 0
def halfRow (g : Grid) (a b : Spot) (y : Int) : Int × Int := (halfFrom g a b y, downTo (fun x => leftI g a b ⟨x, y⟩) (halfFrom g a b y) (g.W.toNat + 1) (g.W - 1))
def halfR (g : Grid) (a b : Spot) : List Run × Int := if g.ok && a.ok && b.ok && decide (a ≠ b) then regRes (fillT g.W g.H (halfRow g a b) g.H.toNat) else ([], 2)
theorem left_convex {g : Grid} (hS : 1 ≤ g.S) {a b : Spot} {x y z Y : Int} (h1 : x ≤ y) (h2 : y ≤ z) (hx : leftI g a b ⟨x, Y⟩ = true) (hz : leftI g a b ⟨z, Y⟩ = true) : leftI g a b ⟨y, Y⟩ = true := by
  unfold leftI at *
  simp only [decide_eq_true_eq] at *
  generalize (b.X - a.X) * ((if b.X - a.X > 0 then Y * g.S + (g.S - 1) else Y * g.S) - a.Y) = K at *
  have m1 : x * g.S ≤ y * g.S := Int.mul_le_mul_of_nonneg_right h1 (by omega)
  have m2 : y * g.S ≤ z * g.S := Int.mul_le_mul_of_nonneg_right h2 (by omega)
  generalize b.Y - a.Y = v at *
  by_cases hvn : v < 0
  · have hvn' : v ≤ 0 := by omega
    simp only [hvn, if_true] at *
    have := Int.mul_le_mul_of_nonpos_left (show v ≤ 0 by omega) (show x * g.S + (g.S - 1) - a.X ≤ y * g.S + (g.S - 1) - a.X by omega)
    omega
  · have hvn' : 0 ≤ v := by omega
    simp only [hvn, if_false] at *
    have := Int.mul_le_mul_of_nonneg_left (show y * g.S - a.X ≤ z * g.S - a.X by omega) (show 0 ≤ v by omega)
    omega
theorem half_has {g : Grid} (hg : g.ok = true) {a b : Spot} (c : Cell) : hasB (regR (fillT g.W g.H (halfRow g a b) g.H.toNat)) c = true ↔ inG g c ∧ leftI g a b c = true := by
  obtain ⟨hW, hH, hS, _⟩ := Grid.ok_b hg
  rw [fill_has hH]
  refine and_congr_right fun hin => ?_
  unfold inG at hin
  have hu := upTo_ok (fun x => leftI g a b ⟨x, c.Y⟩) (g.W - 1) (g.W.toNat + 1) 0 (by omega)
  have hd := downTo_ok (fun x => leftI g a b ⟨x, c.Y⟩) (halfFrom g a b c.Y) (g.W.toNat + 1) (g.W - 1) (by unfold halfFrom; omega)
  simp only [halfRow]
  unfold halfFrom at *
  generalize upTo (fun x => leftI g a b ⟨x, c.Y⟩) (g.W - 1) (g.W.toNat + 1) 0 = f at *
  generalize downTo (fun x => leftI g a b ⟨x, c.Y⟩) f (g.W.toNat + 1) (g.W - 1) = t at *
  obtain ⟨u1, u2, u3, u4⟩ := hu
  obtain ⟨d1, d2, d3, d4⟩ := hd
  constructor
  · rintro ⟨h1, h2⟩
    exact left_convex (x := f) (z := t) hS.1 h1 h2 (u4 (by omega)) (d4 (by omega))
  · intro h
    constructor
    · rcases Int.lt_or_le c.X f with h1 | h1
      · have := u3 c.X (by omega) h1
        rw [show (⟨c.X, c.Y⟩ : Cell) = c from rfl, h] at this; cases this
      · exact h1
    · rcases Int.lt_or_le t c.X with h1 | h1
      · have := d3 c.X (by omega) h1
        rw [show (⟨c.X, c.Y⟩ : Cell) = c from rfl, h] at this; cases this
      · exact h1
/-- the statement, in plain words -/
theorem reach_disc {g : Grid} {a s : Spot} {radius : Int} (he : (cellOfR g s).2 = 0) (hf : (discR g a radius).2 = 0) :
    ((s.X - a.X) * (s.X - a.X) + (s.Y - a.Y) * (s.Y - a.Y) ≤ radius * radius → hasB (discR g a radius).1 (cellOfR g s).1 = true) ∧
    (hasB (discR g a radius).1 (cellOfR g s).1 = decide (awayI g.S a.X (cellOfR g s).1.X * awayI g.S a.X (cellOfR g s).1.X + awayI g.S a.Y (cellOfR g s).1.Y * awayI g.S a.Y (cellOfR g s).1.Y ≤ radius * radius)) := by
  unfold discR at hf ⊢
  split at hf
  · rename_i hc
    rw [if_pos hc]
    simp only [Bool.and_eq_true, decide_eq_true_eq] at hc
    obtain ⟨⟨hg, ha⟩, hr⟩ := hc
    obtain ⟨hW, hH, hS, _⟩ := Grid.ok_b hg
    rw [fill_fits _ _ _ _ (by omega)]
    simp only
    unfold cellOfR at he ⊢
    split at he
    · cases he
    · rename_i h1
      rw [if_neg h1]
      split at he
      · rename_i h2
        rw [if_pos h2]
        have hin : inG g ⟨s.X / g.S, s.Y / g.S⟩ := by unfold inG; simp only; omega
        have hd := disc_has hg hr (s := a) ⟨s.X / g.S, s.Y / g.S⟩
        simp only at hd ⊢
        refine ⟨fun h => hd.2 ⟨hin, ?_⟩, ?_⟩
        · have key : ∀ {x t : Int}, awayI g.S t (x / g.S) * awayI g.S t (x / g.S) ≤ (x - t) * (x - t) := fun {x t} => by
            have e1 := Int.emod_add_mul_ediv x g.S
            have e2 := Int.emod_nonneg x (show g.S ≠ 0 by omega)
            have e3 := Int.emod_lt_of_pos x (show 0 < g.S by omega)
            have e4 : x / g.S * g.S = x - x % g.S := by rw [Int.mul_comm]; omega
            have h0 : 0 ≤ awayI g.S t (x / g.S) := by unfold awayI; omega
            rcases Int.lt_or_le x t with h | h
            · have : awayI g.S t (x / g.S) ≤ t - x := by unfold awayI; rw [e4]; omega
              have h5 := (sq_le h0 (by omega)).1 this
              have h6 : (t - x) * (t - x) = (x - t) * (x - t) := by rw [← Int.neg_sub x t, Int.neg_mul_neg]
              omega
            · have : awayI g.S t (x / g.S) ≤ x - t := by unfold awayI; rw [e4]; omega
              exact (sq_le h0 (by omega)).1 this
          have k1 := key (x := s.X) (t := a.X)
          have k2 := key (x := s.Y) (t := a.Y)
          omega
        · rw [Bool.eq_iff_iff, hd, decide_eq_true_eq]
          exact ⟨fun h => h.2, fun h => ⟨hin, h⟩⟩
      · cases he
  · cases hf
theorem reach_half {g : Grid} {a b s : Spot} (he : (cellOfR g s).2 = 0) (hh : (halfR g a b).2 = 0) (hl : 0 ≤ (b.X - a.X) * (s.Y - a.Y) - (b.Y - a.Y) * (s.X - a.X)) : hasB (halfR g a b).1 (cellOfR g s).1 = true := by
  unfold halfR at hh ⊢
  split at hh
  · rename_i hc
    rw [if_pos hc]
    simp only [Bool.and_eq_true, decide_eq_true_eq] at hc
    obtain ⟨⟨⟨hg, ha⟩, hb⟩, hne⟩ := hc
    obtain ⟨hW, hH, hS, _⟩ := Grid.ok_b hg
    rw [fill_fits _ _ _ _ (by omega)]
    simp only
    unfold cellOfR at he ⊢
    split at he
    · cases he
    · rename_i h1
      rw [if_neg h1]
      split at he
      · rename_i h2
        rw [if_pos h2]
        refine (half_has hg _).2 ⟨by unfold inG; simp only; omega, ?_⟩
        unfold leftI
        simp only [decide_eq_true_eq]
        have f1 := Int.emod_add_mul_ediv s.X g.S
        have f2 := Int.emod_nonneg s.X (show g.S ≠ 0 by omega)
        have f3 := Int.emod_lt_of_pos s.X (show 0 < g.S by omega)
        have f4 : s.X / g.S * g.S = s.X - s.X % g.S := by rw [Int.mul_comm]; omega
        have g1 := Int.emod_add_mul_ediv s.Y g.S
        have g2 := Int.emod_nonneg s.Y (show g.S ≠ 0 by omega)
        have g3 := Int.emod_lt_of_pos s.Y (show 0 < g.S by omega)
        have g4 : s.Y / g.S * g.S = s.Y - s.Y % g.S := by rw [Int.mul_comm]; omega
        rw [f4, g4]
        have e1 : (b.X - a.X) * (s.Y - a.Y) ≤ (b.X - a.X) * ((if b.X - a.X > 0 then s.Y - s.Y % g.S + (g.S - 1) else s.Y - s.Y % g.S) - a.Y) := by
          split
          · exact Int.mul_le_mul_of_nonneg_left (by omega) (by omega)
          · exact Int.mul_le_mul_of_nonpos_left (by omega) (by omega)
        have e2 : (b.Y - a.Y) * ((if b.Y - a.Y < 0 then s.X - s.X % g.S + (g.S - 1) else s.X - s.X % g.S) - a.X) ≤ (b.Y - a.Y) * (s.X - a.X) := by
          split
          · exact Int.mul_le_mul_of_nonpos_left (by omega) (by omega)
          · exact Int.mul_le_mul_of_nonneg_left (by omega) (by omega)
        omega
      · cases he
  · cases hh
end Go.J
