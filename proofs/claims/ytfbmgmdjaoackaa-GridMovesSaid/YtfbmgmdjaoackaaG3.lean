/-
  Lemmas for the statements of this seat; no statement is proved here. No condition.
-/
import Derived.Test.YtfbmgmdjaoackaaG2
namespace Go.J
open Go.RowKit Go.Proofs
set_option maxRecDepth 8000
set_option linter.unusedSimpArgs false
set_option linter.unusedVariables false
def Spot.ok (s : Spot) : Bool := decide (-16777216 ≤ s.X ∧ s.X ≤ 16777216) && decide (-16777216 ≤ s.Y ∧ s.Y ≤ 16777216)
structure Cell where
  X : Int
  Y : Int
deriving DecidableEq
def Cell.ev (s : Cell) : Value := .agg ⟨[.int .i64 s.X, .int .i64 s.Y]⟩
def Run.has (c : Cell) (r : Run) : Bool := decide (r.Y = c.Y) && decide (r.From ≤ c.X) && decide (c.X < r.To)
def hasB (rs : List Run) (c : Cell) : Bool := rs.any (Run.has c)
structure Grid where
  W : Int
  H : Int
  S : Int
  land : List Run
def Grid.ev (g : Grid) (lv : Value) : Value := .agg ⟨[.int .i64 g.W, .int .i64 g.H, .int .i64 g.S, lv]⟩
def Grid.ok (g : Grid) : Bool := decide (1 ≤ g.W ∧ g.W ≤ 256) && decide (1 ≤ g.H ∧ g.H ≤ 256) && decide (1 ≤ g.S ∧ g.S ≤ 50000) && rightB g.W g.H g.land
theorem near1_c (s : Spot) (w : World) : Pur Try.prog 223 #[s.ev] w (.bool (!s.ok)) := by
  refine pur_J (args := [s.ev]) Try.func223 rfl Try.ntmps223 rfl ?_
  have H := Own.start w
  ((repeat refine JC.seq ?_); refine JC.region ?_)
  refine JL.box H rfl rfl rfl ?_
  intro b1 w1 H
  refine JL.pure rfl rfl ?_
  refine JL.nil ?_
  ((repeat refine Ex.normal_block ?_); refine Ex.next ?_)
  ((repeat refine JC.seq ?_); refine JC.region ?_)
  refine JL.fieldAddr rfl Try.underlying23 rfl sh3 rfl ?_
  refine JL.loadB 0 H rfl sh3 rfl rfl rfl ?_
  refine JL.callP H fb144 rfl rfl (within_c _ _ _ _) ?_
  intro w2 H _
  refine JL.pure rfl rfl ?_
  refine JL.pure rfl rfl ?_
  refine JL.cases 7 rfl ?_ ?_
  · intro h7
    (try simp only [Bool.not_eq_true', Bool.not_eq_false', decide_eq_true_eq, decide_eq_false_iff_not] at h7)
    refine JL.pass rfl rfl rfl rfl ?_
    refine JL.pass rfl rfl rfl rfl ?_
    refine JL.pass rfl rfl rfl rfl ?_
    refine JL.pass rfl rfl rfl rfl ?_
    refine JL.pure rfl rfl ?_
    refine JL.pure rfl rfl ?_
    refine JL.nil ?_
    ((repeat refine Ex.normal_block ?_); refine Ex.next ?_)
    ((repeat refine JC.seq ?_); refine JC.ret ?_)
    (repeat (first | refine Ex.ret_then ?_ | refine Ex.ret_block ?_))
    refine Ex.ret1 rfl (.tmp rfl) ⟨?_, H.below⟩
    unfold Spot.ok
    simp [h7]
  · intro h7
    (try simp only [Bool.not_eq_true', Bool.not_eq_false', decide_eq_true_eq, decide_eq_false_iff_not] at h7)
    refine JL.want rfl rfl ?_
    refine JL.fieldAddr rfl Try.underlying23 rfl sh3 rfl ?_
    refine JL.want rfl rfl ?_
    refine JL.loadB 0 H rfl sh3 rfl rfl rfl ?_
    refine JL.want rfl rfl ?_
    refine JL.callP H fb144 rfl rfl (within_c _ _ _ _) ?_
    intro w3 H _
    refine JL.want rfl rfl ?_
    refine JL.pure rfl rfl ?_
    refine JL.pure rfl rfl ?_
    refine JL.pure rfl rfl ?_
    refine JL.nil ?_
    ((repeat refine Ex.normal_block ?_); refine Ex.next ?_)
    ((repeat refine JC.seq ?_); refine JC.ret ?_)
    (repeat (first | refine Ex.ret_then ?_ | refine Ex.ret_block ?_))
    refine Ex.ret1 rfl (.tmp rfl) ⟨?_, H.below⟩
    unfold Spot.ok
    simp [h7]
theorem near_c (v : Value) (l : List Spot) (w : World) (hv : SlS w v l) : Pur Try.prog 142 #[v] w (.bool (l.all Spot.ok)) := by
  refine pur_J (args := [v]) Try.func142 rfl Try.ntmps142 rfl ?_
  have H := Own.start w
  ((repeat refine JC.seq ?_); refine JC.region ?_)
  refine JL.pure rfl rfl ?_
  refine JL.nil ?_
  ((repeat refine Ex.normal_block ?_); refine Ex.next ?_)
  ((repeat refine JC.seq ?_); refine JC.region ?_)
  refine JL.pure rfl rfl ?_
  refine JL.callP H fb206 rfl rfl (contains_spot v l (fun s => !s.ok) 223 [] _ fb223 (hv.grow H.below) (fun _ _ _ _ => near1_c _ _)) ?_
  intro w1 H _
  refine JL.pure rfl rfl ?_
  refine JL.pure rfl rfl ?_
  refine JL.nil ?_
  ((repeat refine Ex.normal_block ?_); refine Ex.next ?_)
  ((repeat refine JC.seq ?_); refine JC.ret ?_)
  (repeat (first | refine Ex.ret_then ?_ | refine Ex.ret_block ?_))
  refine Ex.ret1 rfl (.tmp rfl) ⟨?_, H.below⟩
  rw [List.any_eq_not_all_not]; simp
theorem has1_c (r : Run) (c : Cell) (β off : Nat) (w : World) (hβ : β < w.heap.size) (hc : LdAt w β off (true, 2) c.ev) : Pur Try.prog 137 #[r.ev, .pointer (some ⟨β, off, none⟩)] w (.bool (r.has c)) := by
  refine pur_J (args := [r.ev, .pointer (some ⟨β, off, none⟩)]) Try.func137 rfl Try.ntmps137 rfl ?_
  have H := Own.start w
  ((repeat refine JC.seq ?_); refine JC.region ?_)
  refine JL.box H rfl rfl rfl ?_
  intro b2 w1 H
  refine JL.pure rfl rfl ?_
  refine JL.nil ?_
  ((repeat refine Ex.normal_block ?_); refine Ex.next ?_)
  ((repeat refine JC.seq ?_); refine JC.region ?_)
  refine JL.fieldAddr rfl Try.underlying140 rfl sh3 rfl ?_
  refine JL.loadB 0 H rfl sh3 rfl rfl rfl ?_
  refine JL.fieldAddr rfl Try.underlying62 rfl sh3 rfl ?_
  refine JL.load rfl sh3 ((hc.part 1 rfl _).grow hβ H.below) rfl ?_
  refine JL.pure rfl rfl ?_
  refine JL.pure rfl rfl ?_
  refine JL.cases 9 rfl ?_ ?_
  · intro h9
    (try simp only [Bool.not_eq_true', Bool.not_eq_false', decide_eq_true_eq, decide_eq_false_iff_not] at h9)
    refine JL.want rfl rfl ?_
    refine JL.fieldAddr rfl Try.underlying140 rfl sh3 rfl ?_
    refine JL.want rfl rfl ?_
    refine JL.loadB 0 H rfl sh3 rfl rfl rfl ?_
    refine JL.want rfl rfl ?_
    refine JL.fieldAddr rfl Try.underlying62 rfl sh3 rfl ?_
    refine JL.want rfl rfl ?_
    refine JL.load rfl sh3 ((hc.part 0 rfl _).grow hβ H.below) rfl ?_
    refine JL.want rfl rfl ?_
    refine JL.pure rfl rfl ?_
    refine JL.pure rfl rfl ?_
    refine JL.pure rfl rfl ?_
    refine JL.cases 16 rfl ?_ ?_
    · intro h16
      (try simp only [Bool.not_eq_true', Bool.not_eq_false', decide_eq_true_eq, decide_eq_false_iff_not] at h16)
      refine JL.want rfl rfl ?_
      refine JL.fieldAddr rfl Try.underlying62 rfl sh3 rfl ?_
      refine JL.want rfl rfl ?_
      refine JL.load rfl sh3 ((hc.part 0 rfl _).grow hβ H.below) rfl ?_
      refine JL.want rfl rfl ?_
      refine JL.fieldAddr rfl Try.underlying140 rfl sh3 rfl ?_
      refine JL.want rfl rfl ?_
      refine JL.loadB 0 H rfl sh3 rfl rfl rfl ?_
      refine JL.want rfl rfl ?_
      refine JL.pure rfl rfl ?_
      refine JL.pure rfl rfl ?_
      refine JL.pure rfl rfl ?_
      refine JL.nil ?_
      ((repeat refine Ex.normal_block ?_); refine Ex.next ?_)
      ((repeat refine JC.seq ?_); refine JC.ret ?_)
      (repeat (first | refine Ex.ret_then ?_ | refine Ex.ret_block ?_))
      refine Ex.ret1 rfl (.tmp rfl) ⟨?_, H.below⟩
      unfold Run.has
      simp [*]
    · intro h16
      (try simp only [Bool.not_eq_true', Bool.not_eq_false', decide_eq_true_eq, decide_eq_false_iff_not] at h16)
      refine JL.pass rfl rfl rfl rfl ?_
      refine JL.pass rfl rfl rfl rfl ?_
      refine JL.pass rfl rfl rfl rfl ?_
      refine JL.pass rfl rfl rfl rfl ?_
      refine JL.pass rfl rfl rfl rfl ?_
      refine JL.pure rfl rfl ?_
      refine JL.pure rfl rfl ?_
      refine JL.nil ?_
      ((repeat refine Ex.normal_block ?_); refine Ex.next ?_)
      ((repeat refine JC.seq ?_); refine JC.ret ?_)
      (repeat (first | refine Ex.ret_then ?_ | refine Ex.ret_block ?_))
      refine Ex.ret1 rfl (.tmp rfl) ⟨?_, H.below⟩
      unfold Run.has
      simp [*]
  · intro h9
    (try simp only [Bool.not_eq_true', Bool.not_eq_false', decide_eq_true_eq, decide_eq_false_iff_not] at h9)
    refine JL.pass rfl rfl rfl rfl ?_
    refine JL.pass rfl rfl rfl rfl ?_
    refine JL.pass rfl rfl rfl rfl ?_
    refine JL.pass rfl rfl rfl rfl ?_
    refine JL.pass rfl rfl rfl rfl ?_
    refine JL.pure rfl rfl ?_
    refine JL.pure rfl rfl ?_
    refine JL.pass rfl rfl rfl rfl ?_
    refine JL.pass rfl rfl rfl rfl ?_
    refine JL.pass rfl rfl rfl rfl ?_
    refine JL.pass rfl rfl rfl rfl ?_
    refine JL.pass rfl rfl rfl rfl ?_
    refine JL.pure rfl rfl ?_
    refine JL.pure rfl rfl ?_
    refine JL.nil ?_
    ((repeat refine Ex.normal_block ?_); refine Ex.next ?_)
    ((repeat refine JC.seq ?_); refine JC.ret ?_)
    (repeat (first | refine Ex.ret_then ?_ | refine Ex.ret_block ?_))
    refine Ex.ret1 rfl (.tmp rfl) ⟨?_, H.below⟩
    unfold Run.has
    simp [*]
theorem has_c (v : Value) (rs : List Run) (c : Cell) (w : World) (hv : SlR w v rs) : Pur Try.prog 48 #[v, c.ev] w (.bool (hasB rs c)) := by
  refine pur_J (args := [v, c.ev]) Try.func48 rfl Try.ntmps48 rfl ?_
  have H := Own.start w
  ((repeat refine JC.seq ?_); refine JC.region ?_)
  refine JL.box H rfl rfl rfl ?_
  intro b3 w1 H
  refine JL.pure rfl rfl ?_
  refine JL.nil ?_
  ((repeat refine Ex.normal_block ?_); refine Ex.next ?_)
  ((repeat refine JC.seq ?_); refine JC.region ?_)
  refine JL.pure rfl rfl ?_
  refine JL.pure rfl rfl ?_
  have hg := H.get (i := 0) rfl
  have hlt : b3 < w1.heap.size := lt_of_block hg.2
  refine JL.callP H fb136 rfl rfl (contains_run v rs (Run.has c) 137 [.pointer (some ⟨b3, 0, none⟩)] _ fb137 (hv.grow H.below) (fun w' hb' r _ => has1_c r c b3 0 w' (Nat.lt_of_lt_of_le hlt hb'.size) ((LdAt.of_block hg.2 rfl).grow hlt hb'))) ?_
  intro w2 H _
  refine JL.pure rfl rfl ?_
  refine JL.nil ?_
  ((repeat refine Ex.normal_block ?_); refine Ex.next ?_)
  ((repeat refine JC.seq ?_); refine JC.ret ?_)
  (repeat (first | refine Ex.ret_then ?_ | refine Ex.ret_block ?_))
  refine Ex.ret1 rfl (.tmp rfl) ⟨rfl, H.below⟩
theorem checkGrid_c (g : Grid) (lv : Value) (w : World) (hl : SlR w lv g.land) : Pur Try.prog 141 #[g.ev lv] w (.int .i64 (if g.ok then 0 else 2)) := by
  refine pur_J (args := [g.ev lv]) Try.func141 rfl Try.ntmps141 rfl ?_
  have H := Own.start w
  ((repeat refine JC.seq ?_); refine JC.region ?_)
  refine JL.box H rfl rfl rfl ?_
  intro b1 w1 H
  refine JL.pure rfl rfl ?_
  refine JL.nil ?_
  ((repeat refine Ex.normal_block ?_); refine Ex.next ?_)
  ((repeat refine JC.seq ?_); refine JC.region ?_)
  refine JL.fieldAddr rfl Try.underlying52 rfl sh3 rfl ?_
  refine JL.loadB 0 H rfl sh3 rfl rfl rfl ?_
  refine JL.callP H fb144 rfl rfl (within_c _ _ _ _) ?_
  intro w2 H _
  refine JL.pure rfl rfl ?_
  refine JL.pure rfl rfl ?_
  refine JL.cases 7 rfl ?_ ?_
  · intro h7
    (try simp only [Bool.not_eq_true', Bool.not_eq_false', decide_eq_true_eq, decide_eq_false_iff_not] at h7)
    refine JL.pass rfl rfl rfl rfl ?_
    refine JL.pass rfl rfl rfl rfl ?_
    refine JL.pass rfl rfl rfl rfl ?_
    refine JL.pass rfl rfl rfl rfl ?_
    refine JL.pure rfl rfl ?_
    refine JL.pure rfl rfl ?_
    refine JL.pass rfl rfl rfl rfl ?_
    refine JL.pass rfl rfl rfl rfl ?_
    refine JL.pass rfl rfl rfl rfl ?_
    refine JL.pass rfl rfl rfl rfl ?_
    refine JL.pure rfl rfl ?_
    refine JL.pure rfl rfl ?_
    refine JL.pass rfl rfl rfl rfl ?_
    refine JL.pass rfl rfl rfl rfl ?_
    refine JL.pass rfl rfl rfl rfl ?_
    refine JL.pass rfl rfl rfl rfl ?_
    refine JL.pass rfl rfl rfl rfl ?_
    refine JL.pure rfl rfl ?_
    refine JL.nil ?_
    ((repeat refine Ex.normal_block ?_); refine Ex.next ?_)
    ((repeat refine JC.seq ?_); refine JC.cond rfl (fun _ => ?_) (fun h => by cases h))
    ((repeat refine JC.seq ?_); refine JC.region ?_)
    refine JL.pure rfl rfl ?_
    refine JL.nil ?_
    ((repeat refine Ex.normal_block ?_); refine Ex.next ?_)
    ((repeat refine JC.seq ?_); refine JC.ret ?_)
    (repeat (first | refine Ex.ret_then ?_ | refine Ex.ret_block ?_))
    refine Ex.ret1 rfl (.tmp rfl) ⟨?_, H.below⟩
    rw [if_neg]
    unfold Grid.ok
    simp [*]
  · intro h7
    (try simp only [Bool.not_eq_true', Bool.not_eq_false', decide_eq_true_eq, decide_eq_false_iff_not] at h7)
    refine JL.want rfl rfl ?_
    refine JL.fieldAddr rfl Try.underlying52 rfl sh3 rfl ?_
    refine JL.want rfl rfl ?_
    refine JL.loadB 0 H rfl sh3 rfl rfl rfl ?_
    refine JL.want rfl rfl ?_
    refine JL.callP H fb144 rfl rfl (within_c _ _ _ _) ?_
    intro w3 H _
    refine JL.want rfl rfl ?_
    refine JL.pure rfl rfl ?_
    refine JL.pure rfl rfl ?_
    refine JL.pure rfl rfl ?_
    refine JL.cases 13 rfl ?_ ?_
    · intro h13
      (try simp only [Bool.not_eq_true', Bool.not_eq_false', decide_eq_true_eq, decide_eq_false_iff_not] at h13)
      refine JL.pass rfl rfl rfl rfl ?_
      refine JL.pass rfl rfl rfl rfl ?_
      refine JL.pass rfl rfl rfl rfl ?_
      refine JL.pass rfl rfl rfl rfl ?_
      refine JL.pure rfl rfl ?_
      refine JL.pure rfl rfl ?_
      refine JL.pass rfl rfl rfl rfl ?_
      refine JL.pass rfl rfl rfl rfl ?_
      refine JL.pass rfl rfl rfl rfl ?_
      refine JL.pass rfl rfl rfl rfl ?_
      refine JL.pass rfl rfl rfl rfl ?_
      refine JL.pure rfl rfl ?_
      refine JL.nil ?_
      ((repeat refine Ex.normal_block ?_); refine Ex.next ?_)
      ((repeat refine JC.seq ?_); refine JC.cond rfl (fun _ => ?_) (fun h => by cases h))
      ((repeat refine JC.seq ?_); refine JC.region ?_)
      refine JL.pure rfl rfl ?_
      refine JL.nil ?_
      ((repeat refine Ex.normal_block ?_); refine Ex.next ?_)
      ((repeat refine JC.seq ?_); refine JC.ret ?_)
      (repeat (first | refine Ex.ret_then ?_ | refine Ex.ret_block ?_))
      refine Ex.ret1 rfl (.tmp rfl) ⟨?_, H.below⟩
      rw [if_neg]
      unfold Grid.ok
      simp [*]
    · intro h13
      (try simp only [Bool.not_eq_true', Bool.not_eq_false', decide_eq_true_eq, decide_eq_false_iff_not] at h13)
      refine JL.want rfl rfl ?_
      refine JL.fieldAddr rfl Try.underlying52 rfl sh3 rfl ?_
      refine JL.want rfl rfl ?_
      refine JL.loadB 0 H rfl sh3 rfl rfl rfl ?_
      refine JL.want rfl rfl ?_
      refine JL.callP H fb144 rfl rfl (within_c _ _ _ _) ?_
      intro w4 H _
      refine JL.want rfl rfl ?_
      refine JL.pure rfl rfl ?_
      refine JL.pure rfl rfl ?_
      refine JL.pure rfl rfl ?_
      refine JL.cases 19 rfl ?_ ?_
      · intro h19
        (try simp only [Bool.not_eq_true', Bool.not_eq_false', decide_eq_true_eq, decide_eq_false_iff_not] at h19)
        refine JL.pass rfl rfl rfl rfl ?_
        refine JL.pass rfl rfl rfl rfl ?_
        refine JL.pass rfl rfl rfl rfl ?_
        refine JL.pass rfl rfl rfl rfl ?_
        refine JL.pass rfl rfl rfl rfl ?_
        refine JL.pure rfl rfl ?_
        refine JL.nil ?_
        ((repeat refine Ex.normal_block ?_); refine Ex.next ?_)
        ((repeat refine JC.seq ?_); refine JC.cond rfl (fun _ => ?_) (fun h => by cases h))
        ((repeat refine JC.seq ?_); refine JC.region ?_)
        refine JL.pure rfl rfl ?_
        refine JL.nil ?_
        ((repeat refine Ex.normal_block ?_); refine Ex.next ?_)
        ((repeat refine JC.seq ?_); refine JC.ret ?_)
        (repeat (first | refine Ex.ret_then ?_ | refine Ex.ret_block ?_))
        refine Ex.ret1 rfl (.tmp rfl) ⟨?_, H.below⟩
        rw [if_neg]
        unfold Grid.ok
        simp [*]
      · intro h19
        (try simp only [Bool.not_eq_true', Bool.not_eq_false', decide_eq_true_eq, decide_eq_false_iff_not] at h19)
        refine JL.want rfl rfl ?_
        refine JL.loadB 0 H rfl sh52 rfl rfl rfl ?_
        refine JL.want rfl rfl ?_
        refine JL.fieldAddr rfl Try.underlying52 rfl sh50 rfl ?_
        refine JL.want rfl rfl ?_
        refine JL.loadB 0 H rfl sh50 rfl rfl rfl ?_
        refine JL.want rfl rfl ?_
        refine JL.callP H fb216 rfl rfl (right_c _ _ _ _ _ g.land _ (hl.grow H.below) (by omega) (by omega)) ?_
        intro w5 H _
        refine JL.want rfl rfl ?_
        refine JL.pure rfl rfl ?_
        refine JL.pure rfl rfl ?_
        refine JL.nil ?_
        ((repeat refine Ex.normal_block ?_); refine Ex.next ?_)
        ((repeat refine JC.seq ?_); refine JC.cond rfl ?_ ?_)
        · intro h25
          (try simp only [Bool.not_eq_true', Bool.not_eq_false', decide_eq_true_eq, decide_eq_false_iff_not] at h25)
          ((repeat refine JC.seq ?_); refine JC.region ?_)
          refine JL.pure rfl rfl ?_
          refine JL.nil ?_
          ((repeat refine Ex.normal_block ?_); refine Ex.next ?_)
          ((repeat refine JC.seq ?_); refine JC.ret ?_)
          (repeat (first | refine Ex.ret_then ?_ | refine Ex.ret_block ?_))
          refine Ex.ret1 rfl (.tmp rfl) ⟨?_, H.below⟩
          rw [if_neg]
          unfold Grid.ok
          simp [*]
        · intro h25
          (try simp only [Bool.not_eq_true', Bool.not_eq_false', decide_eq_true_eq, decide_eq_false_iff_not] at h25)
          ((repeat refine JC.seq ?_); refine JC.skip ?_)
          ((repeat refine Ex.normal_block ?_); refine Ex.next ?_)
          ((repeat refine JC.seq ?_); refine JC.region ?_)
          refine JL.pure rfl rfl ?_
          refine JL.nil ?_
          ((repeat refine Ex.normal_block ?_); refine Ex.next ?_)
          ((repeat refine JC.seq ?_); refine JC.ret ?_)
          (repeat (first | refine Ex.ret_then ?_ | refine Ex.ret_block ?_))
          refine Ex.ret1 rfl (.tmp rfl) ⟨?_, H.below⟩
          rw [if_pos]
          unfold Grid.ok
          simp [*]
end Go.J
