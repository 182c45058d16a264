/-
  Lemmas for the statements of this seat; no statement is proved here. No condition.
-/
import Derived.Test.YtfbmgmdjaoackaaG8
import Derived.Test.YtfbmgmdjaoackaaJMore
namespace Go.J
open Go.RowKit Go.Proofs
set_option maxRecDepth 8000
set_option linter.unusedSimpArgs false
set_option linter.unusedVariables false
def cellOfR (g : Grid) (s : Spot) : Cell × Int :=
  if !(g.ok && s.ok) then (⟨0, 0⟩, 2) else
    if (0 ≤ s.X / g.S ∧ s.X / g.S ≤ g.W - 1) ∧ (0 ≤ s.Y / g.S ∧ s.Y / g.S ≤ g.H - 1) then (⟨s.X / g.S, s.Y / g.S⟩, 0) else (⟨0, 0⟩, 7)
theorem cellOf_c (g : Grid) (lv : Value) (s : Spot) (w : World) (hl : SlR w lv g.land) : Pur Try.prog 52 #[g.ev lv, s.ev] w (.tuple #[(cellOfR g s).1.ev, .int .i64 (cellOfR g s).2]) := by
  refine pur_J (args := [g.ev lv, s.ev]) Try.func52 rfl Try.ntmps52 rfl ?_
  have H := Own.start w
  ((repeat refine JC.seq ?_); refine JC.region ?_)
  refine JL.box H rfl rfl rfl ?_
  intro b2 w1 H
  refine JL.box H rfl rfl rfl ?_
  intro b3 w2 H
  refine JL.alloc H z62 rfl ?_
  intro b4 w3 H
  refine JL.pure rfl rfl ?_
  refine JL.nil ?_
  ((repeat refine Ex.normal_block ?_); refine Ex.next ?_)
  ((repeat refine JC.seq ?_); refine JC.region ?_)
  refine JL.loadB 2 H rfl sh52 rfl rfl rfl ?_
  refine JL.callP H fb141 rfl rfl (checkGrid_c g lv _ (hl.grow H.below)) ?_
  intro w4 H _
  refine JL.pure rfl rfl ?_
  refine JL.pure rfl rfl ?_
  refine JL.cases 10 rfl ?_ ?_
  · intro h10
    (try simp only [Bool.not_eq_true', Bool.not_eq_false', decide_eq_true_eq, decide_eq_false_iff_not] at h10)
    have hok : g.ok = false := by
      cases hc : g.ok with
      | false => rfl
      | true => exfalso; rw [hc] at h10; simp at h10
    refine JL.pass rfl rfl rfl rfl ?_
    refine JL.pass rfl rfl rfl rfl ?_
    refine JL.pass rfl rfl rfl rfl ?_
    refine JL.pass rfl rfl rfl rfl ?_
    refine JL.pure rfl rfl ?_
    refine JL.nil ?_
    ((repeat refine Ex.normal_block ?_); refine Ex.next ?_)
    ((repeat refine JC.seq ?_); refine JC.cond rfl (fun _ => ?_) (fun h => by cases h))
    ((repeat refine JC.seq ?_); refine JC.region ?_)
    refine JL.build s62 rfl rfl ?_
    refine JL.storeB 0 H rfl rfl sh62 rfl rfl rfl rfl rfl ?_
    intro w5 H
    refine JL.pure rfl rfl ?_
    refine JL.nil ?_
    ((repeat refine Ex.normal_block ?_); refine Ex.next ?_)
    ((repeat refine JC.seq ?_); refine JC.ret ?_)
    (repeat (first | refine Ex.ret_then ?_ | refine Ex.ret_block ?_))
    refine Ex.ret2 rfl (.cell rfl sh62 (LdAt.of_block (H.get (i := 0) rfl).2 rfl)) (.tmp rfl) ⟨?_, H.below⟩
    unfold cellOfR; rw [hok]; rfl
  · intro h10
    (try simp only [Bool.not_eq_true', Bool.not_eq_false', decide_eq_true_eq, decide_eq_false_iff_not] at h10)
    have hok : g.ok = true := by
      cases hc : g.ok with
      | true => rfl
      | false => exfalso; rw [hc] at h10; simp at h10
    obtain ⟨hgW, hgH, hgS, hgl⟩ := Grid.ok_b hok
    refine JL.want rfl rfl ?_
    refine JL.loadB 1 H rfl sh23 rfl rfl rfl ?_
    refine JL.want rfl rfl ?_
    refine JL.buildSlice H Try.underlying27 sh23 z23 rfl rfl rfl rfl rfl ?_
    intro b12 w6 H
    refine JL.want rfl rfl ?_
    refine JL.callP H fb142 rfl rfl (near_c _ [s] _ (H.blkSl (j := 0) (enc := fun s : Spot => [.int .i64 s.X, .int .i64 s.Y]) rfl [s] rfl (fun _ => rfl) (by simp))) ?_
    intro w7 H _
    refine JL.want rfl rfl ?_
    refine JL.pure rfl rfl ?_
    refine JL.pure rfl rfl ?_
    refine JL.nil ?_
    ((repeat refine Ex.normal_block ?_); refine Ex.next ?_)
    ((repeat refine JC.seq ?_); refine JC.cond rfl ?_ ?_)
    · intro h15
      (try simp only [Bool.not_eq_true', Bool.not_eq_false', decide_eq_true_eq, decide_eq_false_iff_not] at h15)
      
      ((repeat refine JC.seq ?_); refine JC.region ?_)
      refine JL.build s62 rfl rfl ?_
      refine JL.storeB 1 H rfl rfl sh62 rfl rfl rfl rfl rfl ?_
      intro w8 H
      refine JL.pure rfl rfl ?_
      refine JL.nil ?_
      ((repeat refine Ex.normal_block ?_); refine Ex.next ?_)
      ((repeat refine JC.seq ?_); refine JC.ret ?_)
      (repeat (first | refine Ex.ret_then ?_ | refine Ex.ret_block ?_))
      refine Ex.ret2 rfl (.cell rfl sh62 (LdAt.of_block (H.get (i := 1) rfl).2 rfl)) (.tmp rfl) ⟨?_, H.below⟩
      have hs : s.ok = false := by simpa using h15
      unfold cellOfR; rw [hok, hs]; rfl
    · intro h15
      (try simp only [Bool.not_eq_true', Bool.not_eq_false', decide_eq_true_eq, decide_eq_false_iff_not] at h15)
      have hs : s.ok = true := by simpa using h15
      have hb : (-16777216 ≤ s.X ∧ s.X ≤ 16777216) ∧ (-16777216 ≤ s.Y ∧ s.Y ≤ 16777216) := by unfold Spot.ok at hs; simpa using hs
      ((repeat refine JC.seq ?_); refine JC.skip ?_)
      ((repeat refine Ex.normal_block ?_); refine Ex.next ?_)
      ((repeat refine JC.seq ?_); refine JC.draw 13 H mixed (by kernel_rfl) rfl ?_)
      refine JD.fieldAddr rfl Try.underlying23 rfl sh3 rfl ?_
      refine JD.loadB 2 rfl sh3 rfl rfl rfl ?_
      refine JD.fieldAddr rfl Try.underlying52 rfl sh3 rfl ?_
      refine JD.loadB 3 rfl sh3 rfl rfl rfl ?_
      refine JD.call fb143 rfl rfl (fun w hw => floor_c _ _ w (by omega) (by omega) (by omega)) ?_
      refine JD.fieldAddr rfl Try.underlying23 rfl sh3 rfl ?_
      refine JD.loadB 2 rfl sh3 rfl rfl rfl ?_
      refine JD.fieldAddr rfl Try.underlying52 rfl sh3 rfl ?_
      refine JD.loadB 3 rfl sh3 rfl rfl rfl ?_
      refine JD.call fb143 rfl rfl (fun w hw => floor_c _ _ w (by omega) (by omega) (by omega)) ?_
      refine JD.build s62 rfl rfl ?_
      refine JD.allocS 12 (.tmp 27) z62 rfl rfl ?_
      refine JD.storeF rfl rfl rfl sh62 rfl rfl rfl ?_
      refine JD.nil ?_
      intro w9 v6 H
      obtain ⟨b6, rfl, H⟩ := H.ptr (j := 0) rfl
      show JL _ _ _ _ _ _ _
      refine JL.nil ?_
      ((repeat refine Ex.normal_block ?_); refine Ex.next ?_)
      ((repeat refine JC.seq ?_); refine JC.region ?_)
      refine JL.fieldAddr rfl Try.underlying62 rfl sh3 rfl ?_
      refine JL.loadB 0 H rfl sh3 rfl rfl rfl ?_
      refine JL.fieldAddr rfl Try.underlying52 rfl sh3 rfl ?_
      refine JL.loadB 4 H rfl sh3 rfl rfl rfl ?_
      refine JL.arith rfl (by unfold In64; omega) rfl ?_
      refine JL.callP H fb144 rfl rfl (within_c _ _ _ _) ?_
      intro w10 H _
      refine JL.pure rfl rfl ?_
      refine JL.pure rfl rfl ?_
      refine JL.cases 35 rfl ?_ ?_
      · intro h35
        (try simp only [Bool.not_eq_true', Bool.not_eq_false', decide_eq_true_eq, decide_eq_false_iff_not] at h35)
        refine JL.pass rfl rfl rfl rfl ?_
        refine JL.pass rfl rfl rfl rfl ?_
        refine JL.pass rfl rfl rfl rfl ?_
        refine JL.pass rfl rfl rfl rfl ?_
        refine JL.pass rfl rfl rfl rfl ?_
        refine JL.pass rfl rfl rfl rfl ?_
        refine JL.pass rfl rfl rfl rfl ?_
        refine JL.pure rfl rfl ?_
        refine JL.nil ?_
        ((repeat refine Ex.normal_block ?_); refine Ex.next ?_)
        ((repeat refine JC.seq ?_); refine JC.cond rfl (fun _ => ?_) (fun h => by cases h))
        ((repeat refine JC.seq ?_); refine JC.region ?_)
        refine JL.build s62 rfl rfl ?_
        refine JL.storeB 2 H rfl rfl sh62 rfl rfl rfl rfl rfl ?_
        intro w11 H
        refine JL.pure rfl rfl ?_
        refine JL.nil ?_
        ((repeat refine Ex.normal_block ?_); refine Ex.next ?_)
        ((repeat refine JC.seq ?_); refine JC.ret ?_)
        (repeat (first | refine Ex.ret_then ?_ | refine Ex.ret_block ?_))
        refine Ex.ret2 rfl (.cell rfl sh62 (LdAt.of_block (H.get (i := 2) rfl).2 rfl)) (.tmp rfl) ⟨?_, H.below⟩
        unfold cellOfR
        rw [hok, hs]
        simp only [Bool.and_self, Bool.not_true, Bool.false_eq_true, if_false]
        rw [if_neg (by omega)]
        rfl
      · intro h35
        (try simp only [Bool.not_eq_true', Bool.not_eq_false', decide_eq_true_eq, decide_eq_false_iff_not] at h35)
        refine JL.want rfl rfl ?_
        refine JL.fieldAddr rfl Try.underlying62 rfl sh3 rfl ?_
        refine JL.want rfl rfl ?_
        refine JL.loadB 0 H rfl sh3 rfl rfl rfl ?_
        refine JL.want rfl rfl ?_
        refine JL.fieldAddr rfl Try.underlying52 rfl sh3 rfl ?_
        refine JL.want rfl rfl ?_
        refine JL.loadB 4 H rfl sh3 rfl rfl rfl ?_
        refine JL.want rfl rfl ?_
        refine JL.arith rfl (by unfold In64; omega) rfl ?_
        refine JL.want rfl rfl ?_
        refine JL.callP H fb144 rfl rfl (within_c _ _ _ _) ?_
        intro w12 H _
        refine JL.want rfl rfl ?_
        refine JL.pure rfl rfl ?_
        refine JL.pure rfl rfl ?_
        refine JL.nil ?_
        ((repeat refine Ex.normal_block ?_); refine Ex.next ?_)
        ((repeat refine JC.seq ?_); refine JC.cond rfl ?_ ?_)
        · intro h43
          (try simp only [Bool.not_eq_true', Bool.not_eq_false', decide_eq_true_eq, decide_eq_false_iff_not] at h43)
          ((repeat refine JC.seq ?_); refine JC.region ?_)
          refine JL.build s62 rfl rfl ?_
          refine JL.storeB 2 H rfl rfl sh62 rfl rfl rfl rfl rfl ?_
          intro w13 H
          refine JL.pure rfl rfl ?_
          refine JL.nil ?_
          ((repeat refine Ex.normal_block ?_); refine Ex.next ?_)
          ((repeat refine JC.seq ?_); refine JC.ret ?_)
          (repeat (first | refine Ex.ret_then ?_ | refine Ex.ret_block ?_))
          refine Ex.ret2 rfl (.cell rfl sh62 (LdAt.of_block (H.get (i := 2) rfl).2 rfl)) (.tmp rfl) ⟨?_, H.below⟩
          unfold cellOfR
          rw [hok, hs]
          simp only [Bool.and_self, Bool.not_true, Bool.false_eq_true, if_false]
          rw [if_neg (by simp at *; omega)]
          rfl
        · intro h43
          (try simp only [Bool.not_eq_true', Bool.not_eq_false', decide_eq_true_eq, decide_eq_false_iff_not] at h43)
          ((repeat refine JC.seq ?_); refine JC.skip ?_)
          ((repeat refine Ex.normal_block ?_); refine Ex.next ?_)
          ((repeat refine JC.seq ?_); refine JC.region ?_)
          refine JL.loadB 0 H rfl sh62 rfl rfl rfl ?_
          refine JL.storeB 2 H rfl rfl sh62 rfl rfl rfl rfl rfl ?_
          intro w14 H
          refine JL.pure rfl rfl ?_
          refine JL.nil ?_
          ((repeat refine Ex.normal_block ?_); refine Ex.next ?_)
          ((repeat refine JC.seq ?_); refine JC.ret ?_)
          (repeat (first | refine Ex.ret_then ?_ | refine Ex.ret_block ?_))
          refine Ex.ret2 rfl (.cell rfl sh62 (LdAt.of_block (H.get (i := 2) rfl).2 rfl)) (.tmp rfl) ⟨?_, H.below⟩
          unfold cellOfR
          rw [hok, hs]
          simp only [Bool.and_self, Bool.not_true, Bool.false_eq_true, if_false]
          rw [if_pos (by simp at *; omega)]
          rfl
end Go.J
