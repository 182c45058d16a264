/-
  Lemmas for the statements of this seat; no statement is proved here. No condition.
-/
import Derived.Test.YtfbmgmdjaoackaaG7
namespace Go.J
open Go.RowKit Go.Proofs
set_option maxRecDepth 8000
set_option linter.unusedSimpArgs false
set_option linter.unusedVariables false
theorem checked1_c (g : Grid) (lv r : Value) (rs : List Run) (β off : Nat) (w : World) (hβ : β < w.heap.size) (hc : LdAt w β off (true, 4) (g.ev lv)) (hr : SlR w r rs) (hH : 1 ≤ g.H ∧ g.H ≤ 256) (hW : g.W ≤ 256) :
    Pur Try.prog 215 #[r, .pointer (some ⟨β, off, none⟩)] w (.bool (!rightB g.W g.H rs)) := by
  refine pur_J (args := [r, .pointer (some ⟨β, off, none⟩)]) Try.func215 rfl Try.ntmps215 rfl ?_
  have H := Own.start w
  ((repeat refine JC.seq ?_); refine JC.region ?_)
  refine JL.pure rfl rfl ?_
  refine JL.nil ?_
  ((repeat refine Ex.normal_block ?_); refine Ex.next ?_)
  ((repeat refine JC.seq ?_); refine JC.region ?_)
  refine JL.load rfl sh52 (hc.grow hβ H.below) rfl ?_
  refine JL.pure rfl rfl ?_
  refine JL.callP H fb216 rfl rfl (right_c _ _ _ _ _ rs _ (hr.grow H.below) hH hW) ?_
  intro w1 H _
  refine JL.pure rfl rfl ?_
  refine JL.pure rfl rfl ?_
  refine JL.nil ?_
  ((repeat refine Ex.normal_block ?_); refine Ex.next ?_)
  ((repeat refine JC.seq ?_); refine JC.ret ?_)
  (repeat (first | refine Ex.ret_then ?_ | refine Ex.ret_block ?_))
  refine Ex.ret1 rfl (.tmp rfl) ⟨rfl, H.below⟩
def checkedB (g : Grid) (l : List (List Run)) : Bool := g.ok && l.all (rightB g.W g.H)
theorem Grid.ok_b {g : Grid} (h : g.ok = true) : (1 ≤ g.W ∧ g.W ≤ 256) ∧ (1 ≤ g.H ∧ g.H ≤ 256) ∧ (1 ≤ g.S ∧ g.S ≤ 50000) ∧ rightB g.W g.H g.land = true := by
  unfold Grid.ok at h
  simp only [Bool.and_eq_true, decide_eq_true_eq] at h
  exact ⟨h.1.1.1, h.1.1.2, h.1.2, h.2⟩
theorem checked_c (g : Grid) (lv lsv : Value) (l : List (Value × List Run)) (w : World) (hl : SlR w lv g.land) (hs : Sl Prod.fst (false, 1) w lsv l) (hr : ∀ p ∈ l, SlR w p.1 p.2) :
    Pur Try.prog 129 #[g.ev lv, lsv] w (.int .i64 (if checkedB g (l.map Prod.snd) then 0 else 2)) := by
  refine pur_J (args := [g.ev lv, lsv]) Try.func129 rfl Try.ntmps129 rfl ?_
  have H := Own.start w
  ((repeat refine JC.seq ?_); refine JC.region ?_)
  refine JL.box H rfl rfl rfl ?_
  intro b2 w1 H
  refine JL.pure rfl rfl ?_
  refine JL.nil ?_
  ((repeat refine Ex.normal_block ?_); refine Ex.next ?_)
  ((repeat refine JC.seq ?_); refine JC.region ?_)
  refine JL.loadB 0 H rfl sh52 rfl rfl rfl ?_
  refine JL.callP H fb141 rfl rfl (checkGrid_c g lv _ (hl.grow H.below)) ?_
  intro w2 H _
  refine JL.pure rfl rfl ?_
  refine JL.nil ?_
  ((repeat refine Ex.normal_block ?_); refine Ex.next ?_)
  ((repeat refine JC.seq ?_); refine JC.region ?_)
  refine JL.pure rfl rfl ?_
  refine JL.pure rfl rfl ?_
  refine JL.nil ?_
  ((repeat refine Ex.normal_block ?_); refine Ex.next ?_)
  ((repeat refine JC.seq ?_); refine JC.cond rfl ?_ ?_)
  · intro h9
    (try simp only [Bool.not_eq_true', Bool.not_eq_false', decide_eq_true_eq, decide_eq_false_iff_not] at h9)
    have hok : g.ok = false := by
      cases hc : g.ok with
      | false => rfl
      | true => exfalso; rw [hc] at h9; simp at h9
    ((repeat refine JC.seq ?_); refine JC.region ?_)
    refine JL.pure rfl rfl ?_
    refine JL.pure rfl rfl ?_
    refine JL.nil ?_
    ((repeat refine Ex.normal_block ?_); refine Ex.next ?_)
    ((repeat refine JC.seq ?_); refine JC.ret ?_)
    (repeat (first | refine Ex.ret_then ?_ | refine Ex.ret_block ?_))
    refine Ex.ret1 rfl (.tmp rfl) ⟨?_, H.below⟩
    unfold checkedB; rw [hok]; simp
  · intro h9
    (try simp only [Bool.not_eq_true', Bool.not_eq_false', decide_eq_true_eq, decide_eq_false_iff_not] at h9)
    have hok : g.ok = true := by
      cases hc : g.ok with
      | true => rfl
      | false => exfalso; rw [hc] at h9; simp at h9
    obtain ⟨hgW, hgH, hgS, hgl⟩ := Grid.ok_b hok
    ((repeat refine JC.seq ?_); refine JC.skip ?_)
    ((repeat refine Ex.normal_block ?_); refine Ex.next ?_)
    ((repeat refine JC.seq ?_); refine JC.region ?_)
    refine JL.pure rfl rfl ?_
    refine JL.pure rfl rfl ?_
    have hg := H.get (i := 0) rfl
    have hlt : b2 < w2.heap.size := lt_of_block hg.2
    refine JL.callP H fb214 rfl rfl (contains_rows lsv l (fun p => !rightB g.W g.H p.2) 215 [.pointer (some ⟨b2, 0, none⟩)] _ fb215 (hs.grow H.below) (fun w' hb' p hp => checked1_c g lv p.1 p.2 b2 0 w' (Nat.lt_of_lt_of_le hlt hb'.size) ((LdAt.of_block hg.2 rfl).grow hlt hb') ((hr p hp).grow (by have h1 := H.below; exact h1.trans (hb'.mono h1.size))) hgH hgW.2)) ?_
    intro w3 H _
    refine JL.nil ?_
    ((repeat refine Ex.normal_block ?_); refine Ex.next ?_)
    ((repeat refine JC.seq ?_); refine JC.cond rfl ?_ ?_)
    · intro h13
      (try simp only [Bool.not_eq_true', Bool.not_eq_false', decide_eq_true_eq, decide_eq_false_iff_not] at h13)
      ((repeat refine JC.seq ?_); refine JC.region ?_)
      refine JL.pure rfl rfl ?_
      refine JL.nil ?_
      ((repeat refine Ex.normal_block ?_); refine Ex.next ?_)
      ((repeat refine JC.seq ?_); refine JC.ret ?_)
      (repeat (first | refine Ex.ret_then ?_ | refine Ex.ret_block ?_))
      refine Ex.ret1 rfl (.tmp rfl) ⟨?_, H.below⟩
      unfold checkedB
      rw [if_neg]
      simp only [hok, Bool.true_and, List.all_map, Bool.not_eq_true]
      rw [List.any_eq_not_all_not] at h13
      simpa using h13
    · intro h13
      (try simp only [Bool.not_eq_true', Bool.not_eq_false', decide_eq_true_eq, decide_eq_false_iff_not] at h13)
      ((repeat refine JC.seq ?_); refine JC.skip ?_)
      ((repeat refine Ex.normal_block ?_); refine Ex.next ?_)
      ((repeat refine JC.seq ?_); refine JC.region ?_)
      refine JL.pure rfl rfl ?_
      refine JL.nil ?_
      ((repeat refine Ex.normal_block ?_); refine Ex.next ?_)
      ((repeat refine JC.seq ?_); refine JC.ret ?_)
      (repeat (first | refine Ex.ret_then ?_ | refine Ex.ret_block ?_))
      refine Ex.ret1 rfl (.tmp rfl) ⟨?_, H.below⟩
      unfold checkedB
      rw [if_pos]
      simp only [hok, Bool.true_and, List.all_map]
      rw [List.any_eq_not_all_not] at h13
      simpa using h13
structure Push where
  Low : Spot
  High : Spot
deriving DecidableEq
def Push.ev (p : Push) : Value := .agg ⟨[.int .i64 p.Low.X, .int .i64 p.Low.Y, .int .i64 p.High.X, .int .i64 p.High.Y]⟩
def Push.ok (p : Push) : Bool := decide (-16777216 ≤ p.Low.X ∧ p.Low.X ≤ p.High.X) && decide (-16777216 ≤ p.Low.Y ∧ p.Low.Y ≤ p.High.Y) && decide (max p.High.X p.High.Y ≤ 16777216)
theorem pushed_c (p : Push) (w : World) : Pur Try.prog 132 #[p.ev] w (.bool p.ok) := by
  refine pur_J (args := [p.ev]) Try.func132 rfl Try.ntmps132 rfl ?_
  have H := Own.start w
  ((repeat refine JC.seq ?_); refine JC.region ?_)
  refine JL.box H rfl rfl rfl ?_
  intro b1 w1 H
  refine JL.pure rfl rfl ?_
  refine JL.nil ?_
  ((repeat refine Ex.normal_block ?_); refine Ex.next ?_)
  ((repeat refine JC.seq ?_); refine JC.region ?_)
  refine JL.fieldAddr rfl Try.underlying54 rfl sh23 rfl ?_
  refine JL.fieldAddr rfl Try.underlying23 rfl sh3 rfl ?_
  refine JL.loadB 0 H rfl sh3 rfl rfl rfl ?_
  refine JL.fieldAddr rfl Try.underlying54 rfl sh23 rfl ?_
  refine JL.fieldAddr rfl Try.underlying23 rfl sh3 rfl ?_
  refine JL.loadB 0 H rfl sh3 rfl rfl rfl ?_
  refine JL.callP H fb144 rfl rfl (within_c _ _ _ _) ?_
  intro w2 H _
  refine JL.pure rfl rfl ?_
  refine JL.cases 10 rfl ?_ ?_
  · intro h10
    (try simp only [Bool.not_eq_true', Bool.not_eq_false', decide_eq_true_eq, decide_eq_false_iff_not] at h10)
    refine JL.want rfl rfl ?_
    refine JL.fieldAddr rfl Try.underlying54 rfl sh23 rfl ?_
    refine JL.want rfl rfl ?_
    refine JL.fieldAddr rfl Try.underlying23 rfl sh3 rfl ?_
    refine JL.want rfl rfl ?_
    refine JL.loadB 0 H rfl sh3 rfl rfl rfl ?_
    refine JL.want rfl rfl ?_
    refine JL.fieldAddr rfl Try.underlying54 rfl sh23 rfl ?_
    refine JL.want rfl rfl ?_
    refine JL.fieldAddr rfl Try.underlying23 rfl sh3 rfl ?_
    refine JL.want rfl rfl ?_
    refine JL.loadB 0 H rfl sh3 rfl rfl rfl ?_
    refine JL.want rfl rfl ?_
    refine JL.callP H fb144 rfl rfl (within_c _ _ _ _) ?_
    intro w3 H _
    refine JL.pure rfl rfl ?_
    refine JL.pure rfl rfl ?_
    refine JL.cases 19 rfl ?_ ?_
    · intro h19
      (try simp only [Bool.not_eq_true', Bool.not_eq_false', decide_eq_true_eq, decide_eq_false_iff_not] at h19)
      refine JL.want rfl rfl ?_
      refine JL.fieldAddr rfl Try.underlying54 rfl sh23 rfl ?_
      refine JL.want rfl rfl ?_
      refine JL.fieldAddr rfl Try.underlying23 rfl sh3 rfl ?_
      refine JL.want rfl rfl ?_
      refine JL.loadB 0 H rfl sh3 rfl rfl rfl ?_
      refine JL.want rfl rfl ?_
      refine JL.fieldAddr rfl Try.underlying54 rfl sh23 rfl ?_
      refine JL.want rfl rfl ?_
      refine JL.fieldAddr rfl Try.underlying23 rfl sh3 rfl ?_
      refine JL.want rfl rfl ?_
      refine JL.loadB 0 H rfl sh3 rfl rfl rfl ?_
      refine JL.want rfl rfl ?_
      refine JL.pure rfl rfl ?_
      refine JL.want rfl rfl ?_
      refine JL.pure rfl rfl ?_
      refine JL.pure rfl rfl ?_
      refine JL.pure rfl rfl ?_
      refine JL.nil ?_
      ((repeat refine Ex.normal_block ?_); refine Ex.next ?_)
      ((repeat refine JC.seq ?_); refine JC.ret ?_)
      (repeat (first | refine Ex.ret_then ?_ | refine Ex.ret_block ?_))
      refine Ex.ret1 rfl (.tmp rfl) ⟨?_, H.below⟩
      unfold Push.ok
      simp [*]
    · intro h19
      (try simp only [Bool.not_eq_true', Bool.not_eq_false', decide_eq_true_eq, decide_eq_false_iff_not] at h19)
      refine JL.pass rfl rfl rfl rfl ?_
      refine JL.pass rfl rfl rfl rfl ?_
      refine JL.pass rfl rfl rfl rfl ?_
      refine JL.pass rfl rfl rfl rfl ?_
      refine JL.pass rfl rfl rfl rfl ?_
      refine JL.pass rfl rfl rfl rfl ?_
      refine JL.pass rfl rfl rfl rfl ?_
      refine JL.pass rfl rfl rfl rfl ?_
      refine JL.pure rfl rfl ?_
      refine JL.pure rfl rfl ?_
      refine JL.nil ?_
      ((repeat refine Ex.normal_block ?_); refine Ex.next ?_)
      ((repeat refine JC.seq ?_); refine JC.ret ?_)
      (repeat (first | refine Ex.ret_then ?_ | refine Ex.ret_block ?_))
      refine Ex.ret1 rfl (.tmp rfl) ⟨?_, H.below⟩
      unfold Push.ok
      simp [*]
  · intro h10
    (try simp only [Bool.not_eq_true', Bool.not_eq_false', decide_eq_true_eq, decide_eq_false_iff_not] at h10)
    refine JL.pass rfl rfl rfl rfl ?_
    refine JL.pass rfl rfl rfl rfl ?_
    refine JL.pass rfl rfl rfl rfl ?_
    refine JL.pass rfl rfl rfl rfl ?_
    refine JL.pass rfl rfl rfl rfl ?_
    refine JL.pass rfl rfl rfl rfl ?_
    refine JL.pass rfl rfl rfl rfl ?_
    refine JL.pure rfl rfl ?_
    refine JL.pure rfl rfl ?_
    refine JL.pass rfl rfl rfl rfl ?_
    refine JL.pass rfl rfl rfl rfl ?_
    refine JL.pass rfl rfl rfl rfl ?_
    refine JL.pass rfl rfl rfl rfl ?_
    refine JL.pass rfl rfl rfl rfl ?_
    refine JL.pass rfl rfl rfl rfl ?_
    refine JL.pass rfl rfl rfl rfl ?_
    refine JL.pass rfl rfl rfl rfl ?_
    refine JL.pure rfl rfl ?_
    refine JL.pure rfl rfl ?_
    refine JL.nil ?_
    ((repeat refine Ex.normal_block ?_); refine Ex.next ?_)
    ((repeat refine JC.seq ?_); refine JC.ret ?_)
    (repeat (first | refine Ex.ret_then ?_ | refine Ex.ret_block ?_))
    refine Ex.ret1 rfl (.tmp rfl) ⟨?_, H.below⟩
    unfold Push.ok
    simp [*]
theorem leads_c (g : Grid) (lv : Value) (low high : Int) (w : World) (hS : 1 ≤ g.S ∧ g.S ≤ 50000) (h1 : -100000000 ≤ low ∧ low ≤ 100000000) (h2 : -100000000 ≤ high ∧ high ≤ 100000000) :
    Pur Try.prog 133 #[g.ev lv, .int .i64 low, .int .i64 high] w (.tuple #[.int .i64 (low / g.S), .int .i64 ((g.S - 1 + high) / g.S)]) := by
  refine pur_J (args := [g.ev lv, .int .i64 low, .int .i64 high]) Try.func133 rfl Try.ntmps133 rfl ?_
  have H := Own.start w
  ((repeat refine JC.seq ?_); refine JC.region ?_)
  refine JL.box H rfl rfl rfl ?_
  intro b3 w1 H
  refine JL.pure rfl rfl ?_
  refine JL.pure rfl rfl ?_
  refine JL.nil ?_
  ((repeat refine Ex.normal_block ?_); refine Ex.next ?_)
  ((repeat refine JC.seq ?_); refine JC.draw 14 H mixed (by kernel_rfl) rfl ?_)
  refine JD.pure rfl rfl ?_
  refine JD.fieldAddr rfl Try.underlying52 rfl sh3 rfl ?_
  refine JD.loadB 0 rfl sh3 rfl rfl rfl ?_
  refine JD.call fb143 rfl rfl (fun w hw => floor_c _ _ w (by omega) (by omega) (by omega)) ?_
  refine JD.fieldAddr rfl Try.underlying52 rfl sh3 rfl ?_
  refine JD.loadB 0 rfl sh3 rfl rfl rfl ?_
  refine JD.arith rfl (by unfold In64; omega) rfl ?_
  refine JD.pure rfl rfl ?_
  refine JD.arith rfl (by unfold In64; omega) rfl ?_
  refine JD.fieldAddr rfl Try.underlying52 rfl sh3 rfl ?_
  refine JD.loadB 0 rfl sh3 rfl rfl rfl ?_
  refine JD.call fb143 rfl rfl (fun w hw => floor_c _ _ w (by omega) (by omega) (by omega)) ?_
  refine JD.pure rfl rfl ?_
  refine JD.pure rfl rfl ?_
  refine JD.nil ?_
  intro w2 H
  show JL _ _ _ _ _ _ _
  refine JL.nil ?_
  ((repeat refine Ex.normal_block ?_); refine Ex.next ?_)
  ((repeat refine JC.seq ?_); refine JC.ret ?_)
  (repeat (first | refine Ex.ret_then ?_ | refine Ex.ret_block ?_))
  refine Ex.ret2 rfl (.tmp rfl) (.tmp rfl) ⟨rfl, H.below⟩
end Go.J
