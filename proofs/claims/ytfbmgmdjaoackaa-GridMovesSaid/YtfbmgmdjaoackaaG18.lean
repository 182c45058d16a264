/-
  Lemmas for the statements of this seat; no statement is proved here. No condition.
-/
import Derived.Test.YtfbmgmdjaoackaaG17
import Derived.Test.YtfbmgmdjaoackaaPReach
namespace Go.J
open Go.RowKit Go.Proofs
set_option maxRecDepth 8000
set_option linter.unusedSimpArgs false
set_option linter.unusedVariables false
theorem mul_bd2 {a b A B : Int} (h1 : -A ≤ a) (h2 : a ≤ A) (h3 : -B ≤ b) (h4 : b ≤ B) : -(A * B) ≤ a * b ∧ a * b ≤ A * B := by
  have hB : 0 ≤ B := by omega
  have hA : 0 ≤ A := by omega
  rcases Int.le_total 0 a with h | h
  · have e1 : a * b ≤ a * B := Int.mul_le_mul_of_nonneg_left h4 h
    have e2 : a * B ≤ A * B := Int.mul_le_mul_of_nonneg_right h2 hB
    have e3 : a * -B ≤ a * b := Int.mul_le_mul_of_nonneg_left h3 h
    rw [Int.mul_neg] at e3
    omega
  · have e1 : a * b ≤ a * -B := Int.mul_le_mul_of_nonpos_left h h3
    have e2 : -a * B ≤ A * B := Int.mul_le_mul_of_nonneg_right (by omega) hB
    have e3 : a * B ≤ a * b := Int.mul_le_mul_of_nonpos_left h h4
    rw [Int.mul_neg] at e1
    rw [Int.neg_mul] at e2
    omega
theorem w64_left {u v p q : Int} (hu : -33554432 ≤ u ∧ u ≤ 33554432) (hv : -33554432 ≤ v ∧ v ≤ 33554432) (hp : -100000000 ≤ p ∧ p ≤ 100000000) (hq : -100000000 ≤ q ∧ q ≤ 100000000) :
    w64 (w64 (u * p) - w64 (v * q)) = u * p - v * q := by
  have h1 := mul_bd2 hu.1 hu.2 hp.1 hp.2
  have h2 := mul_bd2 hv.1 hv.2 hq.1 hq.2
  rw [w64_id (n := u * p) (by unfold In64; omega), w64_id (n := v * q) (by unfold In64; omega), w64_id (by unfold In64; omega)]
theorem away_c (g : Grid) (lv : Value) (n cell : Int) (w : World) (hS : 1 ≤ g.S ∧ g.S ≤ 50000) (hn : -16777216 ≤ n ∧ n ≤ 16777216) (hc : 0 ≤ cell ∧ cell ≤ 256) :
    Pur Try.prog 165 #[g.ev lv, .int .i64 n, .int .i64 cell] w (.int .i64 (awayI g.S n cell)) := by
  refine pur_J (args := [g.ev lv, .int .i64 n, .int .i64 cell]) Try.func165 rfl Try.ntmps165 rfl ?_
  have H := Own.start w
  have hm := mul_bd (M := 0) hc.1 hc.2 (show 0 ≤ g.S by omega) hS.2
  ((repeat refine JC.seq ?_); refine JC.region ?_)
  refine JL.box H rfl rfl rfl ?_
  intro b3 w1 H
  refine JL.pure rfl rfl ?_
  refine JL.nil ?_
  ((repeat refine Ex.normal_block ?_); refine Ex.next ?_)
  ((repeat refine JC.seq ?_); refine JC.region ?_)
  refine JL.pure rfl rfl ?_
  refine JL.fieldAddr rfl Try.underlying52 rfl sh3 rfl ?_
  refine JL.loadB 0 H rfl sh3 rfl rfl rfl ?_
  refine JL.arith rfl (by unfold In64; omega) rfl ?_
  refine JL.pure rfl rfl ?_
  refine JL.arith rfl (by unfold In64; omega) rfl ?_
  refine JL.pure rfl rfl ?_
  refine JL.pure rfl rfl ?_
  refine JL.fieldAddr rfl Try.underlying52 rfl sh3 rfl ?_
  refine JL.loadB 0 H rfl sh3 rfl rfl rfl ?_
  refine JL.arith rfl (by unfold In64; omega) rfl ?_
  refine JL.arith rfl (by unfold In64; omega) rfl ?_
  refine JL.fieldAddr rfl Try.underlying52 rfl sh3 rfl ?_
  refine JL.loadB 0 H rfl sh3 rfl rfl rfl ?_
  refine JL.arith rfl (by unfold In64; omega) rfl ?_
  refine JL.arith rfl (by unfold In64; omega) rfl ?_
  refine JL.pure rfl rfl ?_
  refine JL.pure rfl rfl ?_
  refine JL.nil ?_
  ((repeat refine Ex.normal_block ?_); refine Ex.next ?_)
  ((repeat refine JC.seq ?_); refine JC.ret ?_)
  (repeat (first | refine Ex.ret_then ?_ | refine Ex.ret_block ?_))
  refine Ex.ret1 rfl (.tmp rfl) ⟨rfl, H.below⟩
theorem root_c (n : Int) (w : World) (h0 : 0 ≤ n) (hn : n < 4611686018427387904) : Pur Try.prog 166 #[.int .i64 n] w (.int .i64 (rootI n)) := by
  refine pur_J (args := [.int .i64 n]) Try.func166 rfl Try.ntmps166 rfl ?_
  have H := Own.start w
  ((repeat refine JC.seq ?_); refine JC.region ?_)
  refine JL.pure rfl rfl ?_
  refine JL.nil ?_
  ((repeat refine Ex.normal_block ?_); refine Ex.next ?_)
  ((repeat refine JC.seq ?_); refine JC.region ?_)
  refine JL.pure rfl rfl ?_
  refine JL.pure rfl rfl ?_
  refine JL.nil ?_
  ((repeat refine Ex.normal_block ?_); refine Ex.next ?_)
  ((repeat refine JC.seq ?_); refine JC.block ?_)
  ((repeat refine JC.seq ?_); refine JC.loop (ι := Nat × Int × Int) (fun x => [(0, .int .i64 n), (3, .int .i64 x.2.1), (4, .int .i64 x.2.2)])
    (fun x wr => (0 ≤ x.2.1 ∧ x.2.1 < x.2.2 ∧ x.2.2 ≤ 2147483648 ∧ x.2.2 - x.2.1 ≤ 2 ^ x.1) ∧ rootGo n x.1 x.2.1 x.2.2 = rootI n ∧ Own w wr [])
    (fun x => (x.2.2 - x.2.1).toNat) (32, 0, 2147483648) ?_ ?_ ?_)
  · exact ⟨rfl, rfl, rfl, trivial⟩
  · exact ⟨⟨by decide, by decide, by decide, by decide⟩, rfl, H⟩
  · rintro ⟨f, low, high⟩ wr ⟨⟨hl, hlh, hh, hf⟩, hr, H⟩
    simp only at hl hlh hh hf hr H
    show JC _ _ _ _ [(0, .int .i64 n), (3, .int .i64 low), (4, .int .i64 high)] _
    ((repeat refine JC.seq ?_); refine JC.region ?_)
    refine JL.pure rfl rfl ?_
    refine JL.pure rfl rfl ?_
    refine JL.arith rfl (by unfold In64; omega) rfl ?_
    refine JL.pure rfl rfl ?_
    refine JL.nil ?_
    ((repeat refine Ex.normal_block ?_); refine Ex.next ?_)
    ((repeat refine JC.seq ?_); refine JC.cond rfl ?_ ?_)
    · intro h9
      (try simp only [Bool.not_eq_true', Bool.not_eq_false', decide_eq_true_eq, decide_eq_false_iff_not] at h9)
      obtain ⟨f, rfl⟩ : ∃ f', f = f' + 1 := by
        cases f with
        | zero => simp at hf; omega
        | succ f' => exact ⟨f', rfl⟩
      unfold rootGo at hr
      rw [if_pos h9] at hr
      rw [Int.pow_succ] at hf
      have hm1 : 0 ≤ (low + high) / 2 := by omega
      have hm2 : (low + high) / 2 ≤ 2147483648 := by omega
      have hmm : (low + high) / 2 * ((low + high) / 2) ≤ 2147483648 * 2147483648 := Int.mul_le_mul hm2 hm2 hm1 (by omega)
      have hm0 : 0 ≤ (low + high) / 2 * ((low + high) / 2) := Int.mul_nonneg hm1 hm1
      ((repeat refine JC.seq ?_); refine JC.skip ?_)
      ((repeat refine Ex.normal_block ?_); refine Ex.next ?_)
      ((repeat refine JC.seq ?_); refine JC.block ?_)
      ((repeat refine JC.seq ?_); refine JC.region ?_)
      refine JL.pure rfl rfl ?_
      refine JL.pure rfl rfl ?_
      refine JL.arith rfl (by unfold In64; omega) rfl ?_
      first
        | refine JL.quoP rfl rfl (by omega) (by omega) (by omega) rfl ?_
        | refine JL.quo rfl rfl (by omega) rfl ?_
      refine JL.pure rfl rfl ?_
      refine JL.nil ?_
      ((repeat refine Ex.normal_block ?_); refine Ex.next ?_)
      ((repeat refine JC.seq ?_); refine JC.region ?_)
      refine JL.pure rfl rfl ?_
      refine JL.pure rfl rfl ?_
      refine JL.arith rfl (by unfold In64; omega) rfl ?_
      refine JL.pure rfl rfl ?_
      refine JL.pure rfl rfl ?_
      refine JL.nil ?_
      ((repeat refine Ex.normal_block ?_); refine Ex.next ?_)
      ((repeat refine JC.seq ?_); refine JC.cond rfl ?_ ?_)
      · intro h18
        (try simp only [Bool.not_eq_true', Bool.not_eq_false', decide_eq_true_eq, decide_eq_false_iff_not] at h18)
        ((repeat refine JC.seq ?_); refine JC.region ?_)
        refine JL.pure rfl rfl ?_
        refine JL.pure rfl rfl ?_
        refine JL.nil ?_
        (repeat refine Ex.normal_block ?_)
        refine Ex.again (f, (low + high) / 2, high) ⟨rfl, rfl, rfl, trivial⟩ ⟨⟨by simp only; omega, by simp only; omega, hh, by simp only; omega⟩, ?_, H⟩ (by simp only; omega)
        rw [if_pos h18] at hr
        exact hr
      · intro h18
        (try simp only [Bool.not_eq_true', Bool.not_eq_false', decide_eq_true_eq, decide_eq_false_iff_not] at h18)
        ((repeat refine JC.seq ?_); refine JC.region ?_)
        refine JL.pure rfl rfl ?_
        refine JL.pure rfl rfl ?_
        refine JL.nil ?_
        (repeat refine Ex.normal_block ?_)
        refine Ex.again (f, low, (low + high) / 2) ⟨rfl, rfl, rfl, trivial⟩ ⟨⟨hl, by simp only; omega, by simp only; omega, by simp only; omega⟩, ?_, H⟩ (by simp only; omega)
        rw [if_neg h18] at hr
        exact hr
    · intro h9
      (try simp only [Bool.not_eq_true', Bool.not_eq_false', decide_eq_true_eq, decide_eq_false_iff_not] at h9)
      
      ((repeat refine JC.seq ?_); refine JC.exit ?_)
      (repeat (first | refine Ex.exit_then ?_ | refine Ex.exit_miss (by decide) ?_))
      refine Ex.exit_hit ?_
      ((repeat refine Ex.normal_block ?_); refine Ex.next ?_)
      ((repeat refine JC.seq ?_); refine JC.region ?_)
      refine JL.pure rfl rfl ?_
      refine JL.pure rfl rfl ?_
      refine JL.nil ?_
      ((repeat refine Ex.normal_block ?_); refine Ex.next ?_)
      ((repeat refine JC.seq ?_); refine JC.ret ?_)
      (repeat (first | refine Ex.ret_then ?_ | refine Ex.ret_block ?_))
      refine Ex.ret1 rfl (.tmp rfl) ⟨?_, H.below⟩
      have : rootGo n f low high = low := by
        cases f with
        | zero => rfl
        | succ f => unfold rootGo; rw [if_neg h9]
      rw [← hr, this]
theorem disc1_c (g : Grid) (lv : Value) (s : Spot) (radius y : Int) (β1 β2 β3 : Nat) (w : World) (h1 : β1 < w.heap.size) (h2 : β2 < w.heap.size) (h3 : β3 < w.heap.size) (hg : LdAt w β1 0 (true, 4) (g.ev lv)) (hs : LdAt w β2 0 (true, 2) s.ev)
    (hr : LdAt w β3 0 (false, 1) (.int .i64 radius)) (hS : 1 ≤ g.S ∧ g.S ≤ 50000) (hso : s.ok = true) (hra : 0 ≤ radius ∧ radius ≤ 16777216) (hy : 0 ≤ y ∧ y ≤ 256) :
    Pur Try.prog 164 #[.int .i64 y, .pointer (some ⟨β1, 0, none⟩), .pointer (some ⟨β2, 0, none⟩), .pointer (some ⟨β3, 0, none⟩)] w (.tuple #[.int .i64 (discRow g s radius y).1, .int .i64 (discRow g s radius y).2]) := by
  refine pur_J (args := [.int .i64 y, .pointer (some ⟨β1, 0, none⟩), .pointer (some ⟨β2, 0, none⟩), .pointer (some ⟨β3, 0, none⟩)]) Try.func164 rfl Try.ntmps164 rfl ?_
  have H := Own.start w
  have hsb := Spot.ok_b hso
  ((repeat refine JC.seq ?_); refine JC.region ?_)
  refine JL.pure rfl rfl ?_
  refine JL.pure rfl rfl ?_
  refine JL.nil ?_
  ((repeat refine Ex.normal_block ?_); refine Ex.next ?_)
  ((repeat refine JC.seq ?_); refine JC.region ?_)
  refine JL.load rfl sh52 (hg.grow h1 H.below) rfl ?_
  refine JL.fieldAddr rfl Try.underlying23 rfl sh3 rfl ?_
  refine JL.load rfl sh3 ((hs.part 1 rfl 1).grow h2 H.below) rfl ?_
  refine JL.pure rfl rfl ?_
  refine JL.callP H fb165 rfl rfl (away_c g lv _ _ _ hS hsb.2 hy) ?_
  intro w1 H _
  refine JL.pure rfl rfl ?_
  refine JL.nil ?_
  ((repeat refine Ex.normal_block ?_); refine Ex.next ?_)
  ((repeat refine JC.seq ?_); refine JC.region ?_)
  refine JL.pure rfl rfl ?_
  refine JL.load rfl sh3 (hr.grow h3 H.below) rfl ?_
  refine JL.pure rfl rfl ?_
  refine JL.nil ?_
  ((repeat refine Ex.normal_block ?_); refine Ex.next ?_)
  ((repeat refine JC.seq ?_); refine JC.cond rfl ?_ ?_)
  · intro h16
    (try simp only [Bool.not_eq_true', Bool.not_eq_false', decide_eq_true_eq, decide_eq_false_iff_not] at h16)
    
    ((repeat refine JC.seq ?_); refine JC.region ?_)
    refine JL.pure rfl rfl ?_
    refine JL.pure rfl rfl ?_
    refine JL.nil ?_
    ((repeat refine Ex.normal_block ?_); refine Ex.next ?_)
    ((repeat refine JC.seq ?_); refine JC.ret ?_)
    (repeat (first | refine Ex.ret_then ?_ | refine Ex.ret_block ?_))
    refine Ex.ret2 rfl (.tmp rfl) (.tmp rfl) ⟨?_, H.below⟩
    unfold discRow; rw [if_pos h16]
  · intro h16
    (try simp only [Bool.not_eq_true', Bool.not_eq_false', decide_eq_true_eq, decide_eq_false_iff_not] at h16)
    obtain ⟨d, hd⟩ : ∃ d, d = awayI g.S s.Y y := ⟨_, rfl⟩
    rw [← hd] at h16
    have hd0 : 0 ≤ d := by rw [hd]; unfold awayI; omega
    have hdd : d * d ≤ radius * radius := (sq_le hd0 hra.1).1 (by omega)
    have hrr : radius * radius ≤ 16777216 * 16777216 := Int.mul_le_mul hra.2 hra.2 hra.1 (by omega)
    have hd2 : 0 ≤ d * d := Int.mul_nonneg hd0 hd0
    obtain ⟨q, hq⟩ : ∃ q, q = rootI (radius * radius - d * d) := ⟨_, rfl⟩
    have hqr := rootI_ok (n := radius * radius - d * d) (by omega) (by omega)
    rw [← hq] at hqr
    have hqb : q ≤ radius := (sq_le hqr.1 hra.1).2 (by omega)
    have hrow : discRow g s radius y = ((s.X - q) / g.S, (s.X + q) / g.S) := by
      unfold discRow; rw [← hd, if_neg h16, ← hq]
    rw [← hd]
    ((repeat refine JC.seq ?_); refine JC.skip ?_)
    ((repeat refine Ex.normal_block ?_); refine Ex.next ?_)
    ((repeat refine JC.seq ?_); refine JC.region ?_)
    refine JL.load rfl sh3 (hr.grow h3 H.below) rfl ?_
    refine JL.load rfl sh3 (hr.grow h3 H.below) rfl ?_
    refine JL.arith rfl (by unfold In64; omega) rfl ?_
    refine JL.pure rfl rfl ?_
    refine JL.pure rfl rfl ?_
    refine JL.arith rfl (by unfold In64; omega) rfl ?_
    refine JL.arith rfl (by unfold In64; omega) rfl ?_
    refine JL.callP H fb166 rfl rfl (root_c _ _ (by omega) (by omega)) ?_
    intro w2 H _
    rw [← hq]
    refine JL.pure rfl rfl ?_
    refine JL.nil ?_
    ((repeat refine Ex.normal_block ?_); refine Ex.next ?_)
    ((repeat refine JC.seq ?_); refine JC.draw 16 H mixed (by kernel_rfl) rfl ?_)
    refine JD.fieldAddr rfl Try.underlying23 rfl sh3 rfl ?_
    refine JD.load rfl sh3 (fun w hw => (hs.part 0 rfl 1).grow h2 hw.below) rfl ?_
    refine JD.pure rfl rfl ?_
    refine JD.arith rfl (by unfold In64; omega) rfl ?_
    refine JD.fieldAddr rfl Try.underlying52 rfl sh3 rfl ?_
    refine JD.load rfl sh3 (fun w hw => (hg.part 2 rfl 1).grow h1 hw.below) rfl ?_
    refine JD.call fb143 rfl rfl (fun w hw => floor_c _ _ w (by omega) (by omega) (by omega)) ?_
    refine JD.fieldAddr rfl Try.underlying23 rfl sh3 rfl ?_
    refine JD.load rfl sh3 (fun w hw => (hs.part 0 rfl 1).grow h2 hw.below) rfl ?_
    refine JD.pure rfl rfl ?_
    refine JD.arith rfl (by unfold In64; omega) rfl ?_
    refine JD.fieldAddr rfl Try.underlying52 rfl sh3 rfl ?_
    refine JD.load rfl sh3 (fun w hw => (hg.part 2 rfl 1).grow h1 hw.below) rfl ?_
    refine JD.call fb143 rfl rfl (fun w hw => floor_c _ _ w (by omega) (by omega) (by omega)) ?_
    refine JD.pure rfl rfl ?_
    refine JD.pure rfl rfl ?_
    refine JD.nil ?_
    intro w3 H
    show JL _ _ _ _ _ _ _
    refine JL.nil ?_
    ((repeat refine Ex.normal_block ?_); refine Ex.next ?_)
    ((repeat refine JC.seq ?_); refine JC.ret ?_)
    (repeat (first | refine Ex.ret_then ?_ | refine Ex.ret_block ?_))
    refine Ex.ret2 rfl (.tmp rfl) (.tmp rfl) ⟨?_, H.below⟩
    rw [hrow]
theorem rootI_le {n m : Int} (h0 : 0 ≤ n) (hn : n < 4611686018427387904) (hm : 0 ≤ m) (h : n ≤ m * m) : rootI n ≤ m := by
  have h1 := rootI_ok h0 hn
  exact (sq_le h1.1 hm).2 (by omega)
theorem discRow_bd {g : Grid} {s : Spot} {radius y : Int} (hS : 1 ≤ g.S) (hso : s.ok = true) (hra : 0 ≤ radius ∧ radius ≤ 16777216) : -1000000000000 ≤ (discRow g s radius y).2 ∧ (discRow g s radius y).2 ≤ 1000000000000 := by
  have hsb := Spot.ok_b hso
  unfold discRow
  split
  · simp
  · rename_i h
    have hd0 : 0 ≤ awayI g.S s.Y y := by unfold awayI; omega
    have hdd : awayI g.S s.Y y * awayI g.S s.Y y ≤ radius * radius := (sq_le hd0 hra.1).1 (by omega)
    have hrr : radius * radius ≤ 16777216 * 16777216 := Int.mul_le_mul hra.2 hra.2 hra.1 (by omega)
    have hd2 : 0 ≤ awayI g.S s.Y y * awayI g.S s.Y y := Int.mul_nonneg hd0 hd0
    have h1 := rootI_ok (n := radius * radius - awayI g.S s.Y y * awayI g.S s.Y y) (by omega) (by omega)
    have h2 := rootI_le (n := radius * radius - awayI g.S s.Y y * awayI g.S s.Y y) (by omega) (by omega) hra.1 (by omega)
    have := ediv_bd (a := s.X + rootI (radius * radius - awayI g.S s.Y y * awayI g.S s.Y y)) (M := 100000000) hS (by omega) (by omega) (by omega)
    simp only
    omega
theorem disc_c (g : Grid) (lv : Value) (s : Spot) (radius : Int) (w : World) (hl : SlR w lv g.land) : Calls Try.prog 77 #[g.ev lv, s.ev, .int .i64 radius] w (fun e w' => ResR w w' [] (discR g s radius) e) := by
  refine calls_J (args := [g.ev lv, s.ev, .int .i64 radius]) Try.func77 rfl Try.ntmps77 rfl ?_
  have H := Own.start w
  ((repeat refine JC.seq ?_); refine JC.region ?_)
  refine JL.box H rfl rfl rfl ?_
  intro b3 w1 H
  refine JL.box H rfl rfl rfl ?_
  intro b4 w2 H
  refine JL.box H rfl rfl rfl ?_
  intro b5 w3 H
  refine JL.pure rfl rfl ?_
  refine JL.pure rfl rfl ?_
  refine JL.nil ?_
  ((repeat refine Ex.normal_block ?_); refine Ex.next ?_)
  ((repeat refine JC.seq ?_); refine JC.region ?_)
  refine JL.loadB 2 H rfl sh52 rfl rfl rfl ?_
  refine JL.callP H fb141 rfl rfl (checkGrid_c g lv _ (hl.grow H.below)) ?_
  intro w4 H _
  refine JL.pure rfl rfl ?_
  refine JL.pure rfl rfl ?_
  refine JL.cases 11 rfl ?_ ?_
  · intro h11
    (try simp only [Bool.not_eq_true', Bool.not_eq_false', decide_eq_true_eq, decide_eq_false_iff_not] at h11)
    have hok : g.ok = false := by
      cases hc : g.ok with
      | false => rfl
      | true => exfalso; rw [hc] at h11; simp at h11
    refine JL.pass rfl rfl rfl rfl ?_
    refine JL.pass rfl rfl rfl rfl ?_
    refine JL.pass rfl rfl rfl rfl ?_
    refine JL.pass rfl rfl rfl rfl ?_
    refine JL.pure rfl rfl ?_
    refine JL.pure rfl rfl ?_
    refine JL.pass rfl rfl rfl rfl ?_
    refine JL.pass rfl rfl rfl rfl ?_
    refine JL.pass rfl rfl rfl rfl ?_
    refine JL.pure rfl rfl ?_
    refine JL.nil ?_
    ((repeat refine Ex.normal_block ?_); refine Ex.next ?_)
    ((repeat refine JC.seq ?_); refine JC.cond rfl (fun _ => ?_) (fun h => by cases h))
    ((repeat refine JC.seq ?_); refine JC.region ?_)
    refine JL.pure rfl rfl ?_
    refine JL.pure rfl rfl ?_
    refine JL.nil ?_
    ((repeat refine Ex.normal_block ?_); refine Ex.next ?_)
    ((repeat refine JC.seq ?_); refine JC.ret ?_)
    (repeat (first | refine Ex.ret_then ?_ | refine Ex.ret_block ?_))
    refine Ex.ret2 rfl (.tmp rfl) (.tmp rfl) ?_
    unfold discR ResR; rw [hok]
    exact ⟨_, rfl, (((H.drop 0).drop 0).drop 0).nilRow 140 3⟩
  · intro h11
    (try simp only [Bool.not_eq_true', Bool.not_eq_false', decide_eq_true_eq, decide_eq_false_iff_not] at h11)
    have hok : g.ok = true := by
      cases hc : g.ok with
      | true => rfl
      | false => exfalso; rw [hc] at h11; simp at h11
    obtain ⟨hgW, hgH, hgS, hgl⟩ := Grid.ok_b hok
    refine JL.want rfl rfl ?_
    refine JL.loadB 1 H rfl sh23 rfl rfl rfl ?_
    refine JL.want rfl rfl ?_
    refine JL.buildSlice H Try.underlying27 sh23 z23 rfl rfl rfl rfl rfl ?_
    intro b13 w5 H
    refine JL.want rfl rfl ?_
    refine JL.callP H fb142 rfl rfl (near_c _ [s] _ (H.blkSl (j := 0) (enc := fun s : Spot => [.int .i64 s.X, .int .i64 s.Y]) rfl [s] rfl (fun _ => rfl) (by simp))) ?_
    intro w6 H _
    refine JL.want rfl rfl ?_
    refine JL.pure rfl rfl ?_
    refine JL.pure rfl rfl ?_
    refine JL.pure rfl rfl ?_
    refine JL.cases 17 rfl ?_ ?_
    · intro h17
      (try simp only [Bool.not_eq_true', Bool.not_eq_false', decide_eq_true_eq, decide_eq_false_iff_not] at h17)
      refine JL.pass rfl rfl rfl rfl ?_
      refine JL.pass rfl rfl rfl rfl ?_
      refine JL.pass rfl rfl rfl rfl ?_
      refine JL.pure rfl rfl ?_
      refine JL.nil ?_
      ((repeat refine Ex.normal_block ?_); refine Ex.next ?_)
      ((repeat refine JC.seq ?_); refine JC.cond rfl (fun _ => ?_) (fun h => by cases h))
      ((repeat refine JC.seq ?_); refine JC.region ?_)
      refine JL.pure rfl rfl ?_
      refine JL.pure rfl rfl ?_
      refine JL.nil ?_
      ((repeat refine Ex.normal_block ?_); refine Ex.next ?_)
      ((repeat refine JC.seq ?_); refine JC.ret ?_)
      (repeat (first | refine Ex.ret_then ?_ | refine Ex.ret_block ?_))
      refine Ex.ret2 rfl (.tmp rfl) (.tmp rfl) ?_
      have hs : s.ok = false := by simpa using h17
      unfold discR ResR; rw [hok, hs]
      exact ⟨_, rfl, ((((H.drop 0).drop 0).drop 0).drop 0).nilRow 140 3⟩
    · intro h17
      (try simp only [Bool.not_eq_true', Bool.not_eq_false', decide_eq_true_eq, decide_eq_false_iff_not] at h17)
      refine JL.want rfl rfl ?_
      refine JL.loadB 1 H rfl sh3 rfl rfl rfl ?_
      refine JL.want rfl rfl ?_
      refine JL.callP H fb144 rfl rfl (within_c _ _ _ _) ?_
      intro w7 H _
      refine JL.want rfl rfl ?_
      refine JL.pure rfl rfl ?_
      refine JL.pure rfl rfl ?_
      refine JL.nil ?_
      ((repeat refine Ex.normal_block ?_); refine Ex.next ?_)
      ((repeat refine JC.seq ?_); refine JC.cond rfl ?_ ?_)
      · intro h21
        (try simp only [Bool.not_eq_true', Bool.not_eq_false', decide_eq_true_eq, decide_eq_false_iff_not] at h21)
        
        ((repeat refine JC.seq ?_); refine JC.region ?_)
        refine JL.pure rfl rfl ?_
        refine JL.pure rfl rfl ?_
        refine JL.nil ?_
        ((repeat refine Ex.normal_block ?_); refine Ex.next ?_)
        ((repeat refine JC.seq ?_); refine JC.ret ?_)
        (repeat (first | refine Ex.ret_then ?_ | refine Ex.ret_block ?_))
        refine Ex.ret2 rfl (.tmp rfl) (.tmp rfl) ?_
        have hs : s.ok = true := by simpa using h17
        have hra : ¬ (0 ≤ radius ∧ radius ≤ 16777216) := by simpa using h21
        unfold discR ResR; rw [hok, hs, decide_eq_false hra]
        exact ⟨_, rfl, ((((H.drop 0).drop 0).drop 0).drop 0).nilRow 140 3⟩
      · intro h21
        (try simp only [Bool.not_eq_true', Bool.not_eq_false', decide_eq_true_eq, decide_eq_false_iff_not] at h21)
        have hs : s.ok = true := by simpa using h17
        have hra : 0 ≤ radius ∧ radius ≤ 16777216 := by simpa using h21
        ((repeat refine JC.seq ?_); refine JC.skip ?_)
        ((repeat refine Ex.normal_block ?_); refine Ex.next ?_)
        ((repeat refine JC.seq ?_); refine JC.region ?_)
        refine JL.loadB 3 H rfl sh52 rfl rfl rfl ?_
        refine JL.pure rfl rfl ?_
        have hg1 := H.get (i := 3) rfl
        have hg2 := H.get (i := 2) rfl
        have hg3 := H.get (i := 1) rfl
        have l1 := lt_of_block hg1.2
        have l2 := lt_of_block hg2.2
        have l3 := lt_of_block hg3.2
        refine JL.call fb163 rfl rfl (filled_c g lv 164 [.pointer (some ⟨b3, 0, none⟩), .pointer (some ⟨b4, 0, none⟩), .pointer (some ⟨b5, 0, none⟩)] (discRow g s radius) _ hgW hgH fb164 (fun w' hb' y hy0 hy1 => ⟨disc1_c g lv s radius y b3 b4 b5 w' (Nat.lt_of_lt_of_le l1 hb'.size) (Nat.lt_of_lt_of_le l2 hb'.size) (Nat.lt_of_lt_of_le l3 hb'.size) ((LdAt.of_block hg1.2 rfl).grow l1 hb') ((LdAt.of_block hg2.2 rfl).grow l2 hb') ((LdAt.of_block hg3.2 rfl).grow l3 hb') hgS hs hra ⟨hy0, by omega⟩, discRow_bd hgS.1 hs hra⟩)) ?_
        rintro _ w8 ⟨rv, rfl, K⟩
        have H := H.join K
        refine ⟨_, rfl, ?_⟩
        refine JL.pure rfl rfl ?_
        refine JL.pure rfl rfl ?_
        refine JL.pure rfl rfl ?_
        refine JL.pure rfl rfl ?_
        refine JL.nil ?_
        ((repeat refine Ex.normal_block ?_); refine Ex.next ?_)
        ((repeat refine JC.seq ?_); refine JC.ret ?_)
        (repeat (first | refine Ex.ret_then ?_ | refine Ex.ret_block ?_))
        refine Ex.ret2 rfl (.tmp rfl) (.tmp rfl) ?_
        unfold discR; rw [hok, hs]
        simp only [Bool.and_self, Bool.true_and, decide_eq_true hra, if_true]
        exact ⟨_, rfl, ((((H.drop 1).drop 1).drop 1).drop 1)⟩
end Go.J
