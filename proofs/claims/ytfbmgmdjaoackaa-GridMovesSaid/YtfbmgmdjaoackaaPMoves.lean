/-
  Lemmas for the statements of this seat; no statement is proved here. No condition.
-/
import Derived.Test.YtfbmgmdjaoackaaG23
import Derived.Test.YtfbmgmdjaoackaaPMore
import Derived.Test.YtfbmgmdjaoackaaPTight
namespace Go.J
set_option linter.unusedSimpArgs false
set_option linter.unusedVariables false
def cellsR (g : Grid) (r : List Run) : List Cell × Int := if checkedB g [r] then (cellsAll r, 0) else ([], 2)
theorem cellsR_mem {g : Grid} {r : List Run} {c : Cell} (h : c ∈ (cellsR g r).1) : checkedB g [r] = true ∧ hasB r c = true := by
  unfold cellsR at h
  split at h
  · rename_i hc; exact ⟨hc, mem_cellsAll.1 h⟩
  · cases h
theorem pick_bd {S c u : Int} {n : Int} (hS : 1 ≤ S ∧ S ≤ 50000) (hc : 0 ≤ c ∧ c < n) (hn : n ≤ 256) (hu : 0 ≤ u) : c * S ≤ c * S + u % S ∧ c * S + u % S ≤ c * S + S - 1 ∧ (0 ≤ c * S ∧ c * S ≤ 12800000) := by
  have h1 := Int.emod_nonneg u (show S ≠ 0 by omega)
  have h2 := Int.emod_lt_of_pos u (show 0 < S by omega)
  exact ⟨by omega, by omega, mul_bd (M := 0) hc.1 (by omega) (by omega) hS.2⟩
theorem of_bd {lo hi u : Int} (h : lo ≤ hi) : lo ≤ lo + u % (hi - lo + 1) ∧ lo + u % (hi - lo + 1) ≤ hi := by
  have h1 := Int.emod_nonneg u (show hi - lo + 1 ≠ 0 by omega)
  have h2 := Int.emod_lt_of_pos u (show 0 < hi - lo + 1 by omega)
  omega
theorem ediv_cell {S n X : Int} (hS : 1 ≤ S) (h0 : 0 ≤ X) (h1 : X < n * S) : 0 ≤ X / S ∧ X / S < n ∧ X / S * S ≤ X ∧ X ≤ X / S * S + S - 1 := by
  have h2 := Int.emod_add_mul_ediv X S
  have h3 := Int.emod_nonneg X (show S ≠ 0 by omega)
  have h4 := Int.emod_lt_of_pos X (show 0 < S by omega)
  have h5 := Int.mul_comm S (X / S)
  exact ⟨Int.ediv_nonneg h0 (by omega), Int.ediv_lt_of_lt_mul (by omega) h1, by omega, by omega⟩
theorem off_lo {S c low : Int} (hS : 1 ≤ S) (h : c * S + low < 0) : c + low / S < 0 := by
  have := Int.ediv_lt_of_lt_mul (a := low) (b := -c) (c := S) (by omega) (by rw [Int.neg_mul]; omega)
  omega
theorem oneR_eq {x y : Int} (h : 0 ≤ x ∧ x < 256) : oneR x y = [⟨y, x, x + 1⟩] := by
  unfold oneR; rw [w64_id (by unfold In64; omega)]
theorem one_right {g : Grid} (hg : g.ok = true) {x y : Int} (hx : 0 ≤ x ∧ x < g.W) (hy : 0 ≤ y ∧ y < g.H) : checkedB g [oneR x y] = true := by
  obtain ⟨hW, hH, hS, _⟩ := Grid.ok_b hg
  unfold checkedB
  rw [hg, oneR_eq (by omega)]
  simp only [List.all_cons, List.all_nil, Bool.and_true, Bool.true_and]
  refine right_iff.2 ⟨?_, by simp⟩
  refine ⟨?_, ?_⟩
  · intro r hr
    simp only [List.mem_singleton] at hr
    subst hr
    simp only
    omega
  · simp
/-- what is asked of a move -/
def MovesC (g : Grid) (r : List Run) (p : Push) (c : Cell) (X Y mx my : Int) : Prop :=
  ((X + mx < 0 ∨ Y + my < 0 ∨ X + mx ≥ g.W * g.S ∨ Y + my ≥ g.H * g.S) → (growR g r p).2.1 = true) ∧
    (¬(X + mx < 0 ∨ Y + my < 0 ∨ X + mx ≥ g.W * g.S ∨ Y + my ≥ g.H * g.S) → ∃ d : Cell, cellOfR g ⟨X + mx, Y + my⟩ = (d, 0) ∧ hasB (growR g r p).1 d = true ∧ (backR g (oneR d.X d.Y) p).2 = 0 ∧ hasB (backR g (oneR d.X d.Y) p).1 c = true ∧ (0 ≤ d.X ∧ d.X < 256))
/-- nothing gets lost by a move -/
theorem moves_law {g : Grid} (hs : g.ok = true → g.W * g.H ≤ 4096) {r : List Run} {p : Push} (he : (growR g r p).2.2 = 0) {c : Cell} (hc : hasB r c = true) {X Y mx my : Int}
    (hX : c.X * g.S ≤ X ∧ X ≤ c.X * g.S + g.S - 1) (hY : c.Y * g.S ≤ Y ∧ Y ≤ c.Y * g.S + g.S - 1) (hmx : p.Low.X ≤ mx ∧ mx ≤ p.High.X) (hmy : p.Low.Y ≤ my ∧ my ≤ p.High.Y) :
    MovesC g r p c X Y mx my := by
  unfold MovesC
  rcases growR_small hs r p with h1 | ⟨hck, hp, h1, hr⟩
  · rw [h1] at he; cases he
  obtain ⟨hg, hall⟩ := checkedB_b hck
  obtain ⟨hW, hH, hS, _⟩ := Grid.ok_b hg
  have hca := canon_of_right (hall r (by simp))
  have hcG := canon_inG hca hc
  unfold inG at hcG
  constructor
  · intro ho
    rw [h1]
    simp only
    obtain ⟨x, hx, k1, k2, k3⟩ := hasB_iff.1 hc
    refine List.any_eq_true.2 ⟨x, hx, ?_⟩
    unfold offB leadOf
    simp only [Bool.or_eq_true, decide_eq_true_eq]
    rcases ho with h | h | h | h
    · left; left; left
      have := off_lo (c := c.X) (low := p.Low.X) (S := g.S) hS.1 (by omega)
      omega
    · left; right
      have := off_lo (c := c.Y) (low := p.Low.Y) (S := g.S) hS.1 (by omega)
      omega
    · left; left; right
      have := (@lead_ge c.X g.S p.High.X g.W hS.1).2 (by omega)
      omega
    · right
      have := (@lead_ge c.Y g.S p.High.Y g.H hS.1).2 (by omega)
      omega
  · intro ho
    have hdx := ediv_cell (n := g.W) (X := X + mx) hS.1 (by omega) (by omega)
    have hdy := ediv_cell (n := g.H) (X := Y + my) hS.1 (by omega) (by omega)
    obtain ⟨dx, hdxe⟩ : ∃ dx, dx = (X + mx) / g.S := ⟨_, rfl⟩
    obtain ⟨dy, hdye⟩ : ∃ dy, dy = (Y + my) / g.S := ⟨_, rfl⟩
    rw [← hdxe] at hdx
    rw [← hdye] at hdy
    have m1 := mul_bd (M := 0) hdx.1 (by omega) (show 0 ≤ g.S by omega) hS.2
    have m2 := mul_bd (M := 0) hdy.1 (by omega) (show 0 ≤ g.S by omega) hS.2
    have hmainR : reachesB g p c ⟨dx, dy⟩ = true := by
      unfold reachesB reachB
      simp only [Bool.and_eq_true, decide_eq_true_eq]
      omega
    have hpn : Push.ok ⟨⟨-p.High.X, -p.High.Y⟩, ⟨-p.Low.X, -p.Low.Y⟩⟩ = true := by
      unfold Push.ok at hp ⊢
      simp only [Bool.and_eq_true, decide_eq_true_eq] at hp ⊢
      omega
    have hone := one_right hg (x := dx) (y := dy) (by omega) (by omega)
    have hone2 := one_right hg (x := c.X) (y := c.Y) (by omega) (by omega)
    have hg1 : (growR g (oneR c.X c.Y) p).2.2 = 0 := by
      rcases growR_one (g := g) (x := c.X) (y := c.Y) (p := p) (by unfold In64; omega) with h | ⟨_, h⟩
      · exfalso
        unfold growR at h
        rw [hone2, hp] at h
        rw [(one_ok (by unfold In64; omega) hone2).2.2, grow_one_fits hH] at h
        have := congrArg (·.2.2) h
        simp at this
      · rw [h]
    have hb1 : (backR g (oneR dx dy) p).2 = 0 := by
      unfold backR
      rw [if_pos hp]
      simp only
      rcases growR_one (g := g) (x := dx) (y := dy) (p := ⟨⟨-p.High.X, -p.High.Y⟩, ⟨-p.Low.X, -p.Low.Y⟩⟩) (by unfold In64; omega) with h | ⟨_, h⟩
      · exfalso
        unfold growR at h
        rw [hone, hpn] at h
        rw [(one_ok (by unfold In64; omega) hone).2.2, grow_one_fits hH] at h
        have := congrArg (·.2.2) h
        simp at this
      · rw [h]
    obtain ⟨_, _, _, _, _, _, t1, t2⟩ := tight_grow (c := c) (d := ⟨dx, dy⟩) (by unfold In64; omega) (by unfold In64; simp only; omega) hg1 hb1
    refine ⟨⟨dx, dy⟩, ?_, ?_, hb1, by rw [t2, hmainR], by simp only; omega⟩
    · unfold cellOfR
      have hsp : Spot.ok ⟨X + mx, Y + my⟩ = true := by
        unfold Spot.ok
        simp only [Bool.and_eq_true, decide_eq_true_eq]
        omega
      rw [hg, hsp]
      simp only [Bool.and_self, Bool.not_true, Bool.false_eq_true, if_false]
      rw [← hdxe, ← hdye, if_pos (by omega)]
    · rw [h1]
      simp only
      rw [grow_has hH (leadOf_wide hS.1 hp).1 (fun r hr => (hca.rng r hr).2.2.1)]
      refine ⟨by unfold inG; simp only; omega, c, hc, ?_⟩
      unfold rectC leadOf
      simp only
      have e1 := (@lead_le c.X g.S p.Low.X dx hS.1).2 (by omega)
      have e2 := (@lead_ge c.X g.S p.High.X dx hS.1).2 (by omega)
      have e3 := (@lead_le c.Y g.S p.Low.Y dy hS.1).2 (by omega)
      have e4 := (@lead_ge c.Y g.S p.High.Y dy hS.1).2 (by omega)
      omega
end Go.J
