/-
  Lemmas for the statements of this seat; no statement is proved here. No condition.
-/
import Derived.Test.YtfbmgmdjaoackaaGT
import Derived.Test.YtfbmgmdjaoackaaM1
namespace Go.J
open Go.RowKit Go.Proofs
set_option maxRecDepth 8000
set_option linter.unusedSimpArgs false
set_option linter.unusedVariables false
/-! ## data -/
structure Run where
  Y : Int
  From : Int
  To : Int
deriving DecidableEq
def Run.ev (r : Run) : Value := .agg ⟨[.int .i64 r.Y, .int .i64 r.From, .int .i64 r.To]⟩
structure Spot where
  X : Int
  Y : Int
deriving DecidableEq
def Spot.ev (s : Spot) : Value := .agg ⟨[.int .i64 s.X, .int .i64 s.Y]⟩
/-- a slice that reads as a list -/
def Sl {α : Type} (ev : α → Value) (sh : Bool × Nat) (w : World) (v : Value) (xs : List α) : Prop :=
  xs.length ≤ 9223372036854775807 ∧ ∃ a cap, v = .slice a xs.length cap ∧ (xs = [] ∨ ∃ β off, a = some ⟨β, off, none⟩ ∧ β < w.heap.size ∧
    ∀ i x, xs[i]? = some x → LdAt w β (off + i * sh.2) sh (ev x))
abbrev SlR := Sl Run.ev (true, 3)
theorem LdAt.grow {w w' : World} {β off : Nat} {sh : Bool × Nat} {v : Value} (h : LdAt w β off sh v) (hβ : β < w.heap.size) (hB : Below w.heap.size w w') : LdAt w' β off sh v := by
  obtain ⟨b, n⟩ := sh
  cases b with
  | true =>
    obtain ⟨l, h1, h2, h3⟩ := h
    exact ⟨l, h1, h2, fun j u hj => by rw [hB.cell (p := ⟨β, _, none⟩) hβ]; exact h3 j u hj⟩
  | false =>
    have h' : w.cell? ⟨β, off, none⟩ = some v := h
    show w'.cell? _ = _
    rw [hB.cell (p := ⟨β, _, none⟩) hβ]; exact h'
theorem LdAt.part {w : World} {β off n : Nat} {l : List Value} (h : LdAt w β off (true, n) (.agg ⟨l⟩)) (j : Nat) {u : Value} (hj : l[j]? = some u) (k : Nat) : LdAt w β (off + j) (false, k) u := by
  obtain ⟨l', h1, h2, h3⟩ := h
  cases h1
  exact h3 j u hj
theorem Sl.grow {α : Type} {ev : α → Value} {sh : Bool × Nat} {w w' : World} {v : Value} {xs : List α} (h : Sl ev sh w v xs) (hB : Below w.heap.size w w') : Sl ev sh w' v xs := by
  obtain ⟨h1, a, cap, h2, h3⟩ := h
  refine ⟨h1, a, cap, h2, ?_⟩
  rcases h3 with h3 | ⟨β, off, h4, h5, h6⟩
  · exact .inl h3
  · exact .inr ⟨β, off, h4, Nat.lt_of_lt_of_le h5 hB.size, fun i x hx => (h6 i x hx).grow h5 hB⟩
theorem drop_cons {α : Type} {xs : List α} {k : Nat} (h : k < xs.length) : xs.drop k = xs[k] :: xs.drop (k + 1) := by simp
/-! ## grid.within, floor -/
theorem within_c (n low high : Int) (w : World) :
    Pur Try.prog 144 #[.int .i64 n, .int .i64 low, .int .i64 high] w (.bool (decide (low ≤ n ∧ n ≤ high))) := by
  refine pur_J (args := [.int .i64 n, .int .i64 low, .int .i64 high]) Try.func144 rfl Try.ntmps144 rfl ?_
  ((repeat refine JC.seq ?_); refine JC.region ?_)
  refine JL.pure rfl rfl ?_
  refine JL.nil ?_
  ((repeat refine Ex.normal_block ?_); refine Ex.next ?_)
  ((repeat refine JC.seq ?_); refine JC.region ?_)
  refine JL.pure rfl rfl ?_
  refine JL.pure rfl rfl ?_
  refine JL.pure rfl rfl ?_
  refine JL.pure rfl rfl ?_
  refine JL.cases 10 rfl ?_ ?_
  · intro h10
    (try simp only [Bool.not_eq_true', Bool.not_eq_false', decide_eq_true_eq, decide_eq_false_iff_not] at h10)
    refine JL.want rfl rfl ?_
    refine JL.pure rfl rfl ?_
    refine JL.want rfl rfl ?_
    refine JL.pure rfl rfl ?_
    refine JL.want rfl rfl ?_
    refine JL.pure rfl rfl ?_
    refine JL.pure rfl rfl ?_
    refine JL.pure rfl rfl ?_
    refine JL.nil ?_
    ((repeat refine Ex.normal_block ?_); refine Ex.next ?_)
    ((repeat refine JC.seq ?_); refine JC.ret ?_)
    (repeat (first | refine Ex.ret_then ?_ | refine Ex.ret_block ?_))
    refine Ex.ret1 rfl (.tmp rfl) ⟨?_, Below.refl _ _⟩
    simp [h10]
  · intro h10
    (try simp only [Bool.not_eq_true', Bool.not_eq_false', decide_eq_true_eq, decide_eq_false_iff_not] at h10)
    refine JL.pass rfl rfl rfl rfl ?_
    refine JL.pass rfl rfl rfl rfl ?_
    refine JL.pass rfl rfl rfl rfl ?_
    refine JL.pure rfl rfl ?_
    refine JL.pure rfl rfl ?_
    refine JL.nil ?_
    ((repeat refine Ex.normal_block ?_); refine Ex.next ?_)
    ((repeat refine JC.seq ?_); refine JC.ret ?_)
    (repeat (first | refine Ex.ret_then ?_ | refine Ex.ret_block ?_))
    refine Ex.ret1 rfl (.tmp rfl) ⟨?_, Below.refl _ _⟩
    simp; omega
theorem floor_neg {a b : Int} (hb : 1 ≤ b) : -((b - 1 - a) / b) = a / b := by
  have h1 := Int.emod_add_mul_ediv a b
  have h2 := Int.emod_nonneg a (show b ≠ 0 by omega)
  have h3 := Int.emod_lt_of_pos a (show 0 < b by omega)
  have h4 : b - 1 - a = (b - 1 - a % b) + b * (-(a / b)) := by rw [Int.mul_neg]; omega
  rw [h4, Int.add_mul_ediv_left _ _ (by omega), Int.ediv_eq_zero_of_lt (by omega) (by omega)]
  omega
theorem floor_c (a b : Int) (w : World) (hb : 1 ≤ b) (hb2 : b ≤ 4294967296) (ha : -4611686018427387904 ≤ a ∧ a ≤ 4611686018427387904) :
    Pur Try.prog 143 #[.int .i64 a, .int .i64 b] w (.int .i64 (a / b)) := by
  refine pur_J (args := [.int .i64 a, .int .i64 b]) Try.func143 rfl Try.ntmps143 rfl ?_
  ((repeat refine JC.seq ?_); refine JC.region ?_)
  refine JL.pure rfl rfl ?_
  refine JL.nil ?_
  ((repeat refine Ex.normal_block ?_); refine Ex.next ?_)
  ((repeat refine JC.seq ?_); refine JC.region ?_)
  refine JL.pure rfl rfl ?_
  refine JL.pure rfl rfl ?_
  refine JL.nil ?_
  ((repeat refine Ex.normal_block ?_); refine Ex.next ?_)
  ((repeat refine JC.seq ?_); refine JC.cond rfl ?_ ?_)
  · intro h6
    (try simp only [Bool.not_eq_true', Bool.not_eq_false', decide_eq_true_eq, decide_eq_false_iff_not] at h6)
    have g1 : 0 ≤ (b - 1 - a) / b := Int.ediv_nonneg (by omega) (by omega)
    have g2 : (b - 1 - a) / b ≤ b - 1 - a := Int.ediv_le_self _ (by omega)
    ((repeat refine JC.seq ?_); refine JC.region ?_)
    refine JL.pure rfl rfl ?_
    refine JL.arith rfl (by unfold In64; omega) rfl ?_
    refine JL.pure rfl rfl ?_
    refine JL.arith rfl (by unfold In64; omega) rfl ?_
    refine JL.pure rfl rfl ?_
    first
      | refine JL.quoP rfl rfl (by omega) (by omega) (by omega) rfl ?_
      | refine JL.quo rfl rfl (by omega) rfl ?_
    refine JL.neg rfl (by unfold In64; omega) rfl ?_
    refine JL.pure rfl rfl ?_
    refine JL.nil ?_
    ((repeat refine Ex.normal_block ?_); refine Ex.next ?_)
    ((repeat refine JC.seq ?_); refine JC.ret ?_)
    (repeat (first | refine Ex.ret_then ?_ | refine Ex.ret_block ?_))
    refine Ex.ret1 rfl (.tmp rfl) ⟨?_, Below.refl _ _⟩
    rw [floor_neg hb]
  · intro h6
    (try simp only [Bool.not_eq_true', Bool.not_eq_false', decide_eq_true_eq, decide_eq_false_iff_not] at h6)
    
    ((repeat refine JC.seq ?_); refine JC.skip ?_)
    ((repeat refine Ex.normal_block ?_); refine Ex.next ?_)
    ((repeat refine JC.seq ?_); refine JC.region ?_)
    refine JL.pure rfl rfl ?_
    refine JL.pure rfl rfl ?_
    first
      | refine JL.quoP rfl rfl (by omega) (by omega) (by omega) rfl ?_
      | refine JL.quo rfl rfl (by omega) rfl ?_
    refine JL.pure rfl rfl ?_
    refine JL.nil ?_
    ((repeat refine Ex.normal_block ?_); refine Ex.next ?_)
    ((repeat refine JC.seq ?_); refine JC.ret ?_)
    (repeat (first | refine Ex.ret_then ?_ | refine Ex.ret_block ?_))
    refine Ex.ret1 rfl (.tmp rfl) ⟨rfl, Below.refl _ _⟩
def Run.ok (W H : Int) (l x : Run) : Prop :=
  (max 0 l.Y ≤ x.Y ∧ x.Y ≤ H - 1) ∧ (1 ≤ x.To ∧ x.To ≤ W) ∧ (0 ≤ x.From ∧ x.From ≤ x.To - 1) ∧ ¬ (x.Y = l.Y ∧ x.From ≤ l.To)
instance (W H : Int) (l x : Run) : Decidable (Run.ok W H l x) := by unfold Run.ok; infer_instance
def rightFrom (W H : Int) : Run → List Run → Bool
  | _, [] => true
  | l, x :: xs => decide (Run.ok W H l x) && rightFrom W H x xs
/-- are runs a region of a grid -/
def rightB (W H : Int) (rs : List Run) : Bool := rightFrom W H ⟨-1, 0, 0⟩ rs && decide (rs.length ≤ 8192)
theorem rightFrom_no {W H : Int} {l : Run} {rs : List Run} {k : Nat} {b : Bool} (hk : k < rs.length) (hinv : b = rightFrom W H l (rs.drop k)) (hno : ¬ Run.ok W H l rs[k]) : b = false := by
  rw [hinv, drop_cons hk]; simp [rightFrom, hno]
theorem rightFrom_yes {W H : Int} {l : Run} {rs : List Run} {k : Nat} {b : Bool} (hk : k < rs.length) (hinv : b = rightFrom W H l (rs.drop k)) (hyes : Run.ok W H l rs[k]) : b = rightFrom W H rs[k] (rs.drop (k + 1)) := by
  rw [hinv, drop_cons hk]; simp [rightFrom, hyes]
theorem right_c (W H0 S : Int) (lv r : Value) (rs : List Run) (w : World) (hr : SlR w r rs) (hH : 1 ≤ H0 ∧ H0 ≤ 256) (hW : W ≤ 256) :
    Pur Try.prog 216 #[.agg #[.int .i64 W, .int .i64 H0, .int .i64 S, lv], r] w (.bool (rightB W H0 rs)) := by
  obtain ⟨hlen, a, cap, rfl, ha⟩ := hr
  refine pur_J (args := [.agg #[.int .i64 W, .int .i64 H0, .int .i64 S, lv], .slice a rs.length cap]) Try.func216 rfl Try.ntmps216 rfl ?_
  have H := Own.start w
  ((repeat refine JC.seq ?_); refine JC.region ?_)
  refine JL.box H rfl rfl rfl ?_
  intro b2 w1 H
  refine JL.pure rfl rfl ?_
  refine JL.nil ?_
  ((repeat refine Ex.normal_block ?_); refine Ex.next ?_)
  ((repeat refine JC.seq ?_); refine JC.region ?_)
  refine JL.build s140 rfl rfl ?_
  refine JL.alloc H z140 rfl ?_
  intro b5 w2 H
  refine JL.storeB 0 H rfl rfl sh140 rfl rfl rfl rfl rfl ?_
  intro w3 H
  refine JL.nil ?_
  ((repeat refine Ex.normal_block ?_); refine Ex.next ?_)
  ((repeat refine JC.seq ?_); refine JC.region ?_)
  refine JL.pure rfl rfl ?_
  refine JL.len rfl Try.underlying50 rfl ?_
  refine JL.pure rfl rfl ?_
  refine JL.nil ?_
  ((repeat refine Ex.normal_block ?_); refine Ex.next ?_)
  ((repeat refine JC.seq ?_); refine JC.block ?_)
  ((repeat refine JC.seq ?_); refine JC.loop (ι := Nat × Run) (fun x => [(1, .slice a rs.length cap), (2, .pointer (some ⟨b2, 0, none⟩)), (5, .pointer (some ⟨b5, 0, none⟩)), (9, .slice a rs.length cap), (10, .int .i64 rs.length), (11, .int .i64 x.1)])
    (fun x wr => x.1 ≤ rs.length ∧ rightFrom W H0 ⟨-1, 0, 0⟩ rs = rightFrom W H0 x.2 (rs.drop x.1) ∧ -1 ≤ x.2.Y ∧ 0 ≤ x.2.To ∧ 0 ≤ x.2.From ∧
        Own w wr [blk b5 (.cells ⟨[.int .i64 x.2.Y, .int .i64 x.2.From, .int .i64 x.2.To]⟩ 140 (0, 0)), blk b2 (.cells ⟨[.int .i64 W, .int .i64 H0, .int .i64 S, lv]⟩ 52 (0, 0))])
    (fun x => rs.length - x.1) (0, ⟨-1, 0, 0⟩) ?_ ?_ ?_)
  · exact ⟨rfl, rfl, rfl, rfl, rfl, rfl, trivial⟩
  · exact ⟨Nat.zero_le _, rfl, by simp, by simp, by simp, H⟩
  · rintro ⟨k, l⟩ wr ⟨hk, hinv, hlY, hlT, hlF, H⟩
    simp only at hk hinv hlY hlT hlF H
    ((repeat refine JC.seq ?_); refine JC.region ?_)
    refine JL.pure rfl rfl ?_
    refine JL.nil ?_
    ((repeat refine Ex.normal_block ?_); refine Ex.next ?_)
    ((repeat refine JC.seq ?_); refine JC.cond rfl ?_ ?_)
    · intro h12
      (try simp only [Bool.not_eq_true', Bool.not_eq_false', decide_eq_true_eq, decide_eq_false_iff_not] at h12)
      have h12 : k < rs.length := by omega
      obtain ⟨β, off, rfl, hβ, hc⟩ := ha.resolve_left (by rintro rfl; simp at h12)
      have hx : rs[k]? = some rs[k] := by simp [h12]
      ((repeat refine JC.seq ?_); refine JC.skip ?_)
      ((repeat refine Ex.normal_block ?_); refine Ex.next ?_)
      ((repeat refine JC.seq ?_); refine JC.block ?_)
      ((repeat refine JC.seq ?_); refine JC.region ?_)
      refine JL.indexS k rfl rfl Try.underlying50 sh140 rfl h12 rfl ?_
      refine JL.load rfl sh140 ((hc k _ hx).grow hβ H.below) rfl ?_
      refine JL.alloc H z140 rfl ?_
      intro b7 w4 H
      refine JL.storeB 0 H rfl rfl sh140 rfl rfl rfl rfl rfl ?_
      intro w5 H
      refine JL.nil ?_
      ((repeat refine Ex.normal_block ?_); refine Ex.next ?_)
      ((repeat refine JC.seq ?_); refine JC.region ?_)
      refine JL.fieldAddr rfl Try.underlying140 rfl sh3 rfl ?_
      refine JL.loadB 0 H rfl sh3 rfl rfl rfl ?_
      refine JL.fieldAddr rfl Try.underlying140 rfl sh3 rfl ?_
      refine JL.loadB 1 H rfl sh3 rfl rfl rfl ?_
      refine JL.pure rfl rfl ?_
      refine JL.fieldAddr rfl Try.underlying52 rfl sh3 rfl ?_
      refine JL.loadB 2 H rfl sh3 rfl rfl rfl ?_
      refine JL.arith rfl (by unfold In64; omega) rfl ?_
      refine JL.callP H fb144 rfl rfl (within_c _ _ _ _) ?_
      intro w6 H _
      refine JL.pure rfl rfl ?_
      refine JL.pure rfl rfl ?_
      refine JL.cases 25 rfl ?_ ?_
      · intro h25
        (try simp only [Bool.not_eq_true', Bool.not_eq_false', decide_eq_true_eq, decide_eq_false_iff_not] at h25)
        refine JL.pass rfl rfl rfl rfl ?_
        refine JL.pass rfl rfl rfl rfl ?_
        refine JL.pass rfl rfl rfl rfl ?_
        refine JL.pass rfl rfl rfl rfl ?_
        refine JL.pass rfl rfl rfl rfl ?_
        refine JL.pass rfl rfl rfl rfl ?_
        refine JL.pure rfl rfl ?_
        refine JL.pure rfl rfl ?_
        refine JL.pass rfl rfl rfl rfl ?_
        refine JL.pass rfl rfl rfl rfl ?_
        refine JL.pass rfl rfl rfl rfl ?_
        refine JL.pass rfl rfl rfl rfl ?_
        refine JL.pass rfl rfl rfl rfl ?_
        refine JL.pass rfl rfl rfl rfl ?_
        refine JL.pass rfl rfl rfl rfl ?_
        refine JL.pure rfl rfl ?_
        refine JL.pure rfl rfl ?_
        refine JL.pass rfl rfl rfl rfl ?_
        refine JL.pass rfl rfl rfl rfl ?_
        refine JL.pass rfl rfl rfl rfl ?_
        refine JL.pass rfl rfl rfl rfl ?_
        refine JL.pass rfl rfl rfl rfl ?_
        refine JL.pass rfl rfl rfl rfl ?_
        refine JL.passU rfl rfl rfl ?_
        refine JL.passU rfl rfl rfl ?_
        refine JL.passU rfl rfl rfl ?_
        refine JL.passU rfl rfl rfl ?_
        refine JL.passU rfl rfl rfl ?_
        refine JL.pass rfl rfl rfl rfl ?_
        refine JL.pure rfl rfl ?_
        refine JL.nil ?_
        ((repeat refine Ex.normal_block ?_); refine Ex.next ?_)
        ((repeat refine JC.seq ?_); refine JC.cond rfl (fun _ => ?_) (fun h => by cases h))
        ((repeat refine JC.seq ?_); refine JC.region ?_)
        refine JL.pure rfl rfl ?_
        refine JL.nil ?_
        ((repeat refine Ex.normal_block ?_); refine Ex.next ?_)
        ((repeat refine JC.seq ?_); refine JC.ret ?_)
        (repeat (first | refine Ex.ret_then ?_ | refine Ex.ret_block ?_))
        refine Ex.ret1 rfl (.tmp rfl) ?_
        refine ⟨?_, H.below⟩
        unfold rightB
        rw [rightFrom_no h12 hinv (by unfold Run.ok; omega)]; rfl
      · intro h25
        (try simp only [Bool.not_eq_true', Bool.not_eq_false', decide_eq_true_eq, decide_eq_false_iff_not] at h25)
        refine JL.want rfl rfl ?_
        refine JL.fieldAddr rfl Try.underlying140 rfl sh3 rfl ?_
        refine JL.want rfl rfl ?_
        refine JL.loadB 0 H rfl sh3 rfl rfl rfl ?_
        refine JL.want rfl rfl ?_
        refine JL.fieldAddr rfl Try.underlying52 rfl sh3 rfl ?_
        refine JL.want rfl rfl ?_
        refine JL.loadB 2 H rfl sh3 rfl rfl rfl ?_
        refine JL.want rfl rfl ?_
        refine JL.callP H fb144 rfl rfl (within_c _ _ _ _) ?_
        intro w7 H _
        refine JL.want rfl rfl ?_
        refine JL.pure rfl rfl ?_
        refine JL.pure rfl rfl ?_
        refine JL.pure rfl rfl ?_
        refine JL.cases 33 rfl ?_ ?_
        · intro h33
          (try simp only [Bool.not_eq_true', Bool.not_eq_false', decide_eq_true_eq, decide_eq_false_iff_not] at h33)
          refine JL.pass rfl rfl rfl rfl ?_
          refine JL.pass rfl rfl rfl rfl ?_
          refine JL.pass rfl rfl rfl rfl ?_
          refine JL.pass rfl rfl rfl rfl ?_
          refine JL.pass rfl rfl rfl rfl ?_
          refine JL.pass rfl rfl rfl rfl ?_
          refine JL.pass rfl rfl rfl rfl ?_
          refine JL.pure rfl rfl ?_
          refine JL.pure rfl rfl ?_
          refine JL.pass rfl rfl rfl rfl ?_
          refine JL.pass rfl rfl rfl rfl ?_
          refine JL.pass rfl rfl rfl rfl ?_
          refine JL.pass rfl rfl rfl rfl ?_
          refine JL.pass rfl rfl rfl rfl ?_
          refine JL.pass rfl rfl rfl rfl ?_
          refine JL.passU rfl rfl rfl ?_
          refine JL.passU rfl rfl rfl ?_
          refine JL.passU rfl rfl rfl ?_
          refine JL.passU rfl rfl rfl ?_
          refine JL.passU rfl rfl rfl ?_
          refine JL.pass rfl rfl rfl rfl ?_
          refine JL.pure rfl rfl ?_
          refine JL.nil ?_
          ((repeat refine Ex.normal_block ?_); refine Ex.next ?_)
          ((repeat refine JC.seq ?_); refine JC.cond rfl (fun _ => ?_) (fun h => by cases h))
          ((repeat refine JC.seq ?_); refine JC.region ?_)
          refine JL.pure rfl rfl ?_
          refine JL.nil ?_
          ((repeat refine Ex.normal_block ?_); refine Ex.next ?_)
          ((repeat refine JC.seq ?_); refine JC.ret ?_)
          (repeat (first | refine Ex.ret_then ?_ | refine Ex.ret_block ?_))
          refine Ex.ret1 rfl (.tmp rfl) ?_
          refine ⟨?_, H.below⟩
          unfold rightB
          rw [rightFrom_no h12 hinv (by unfold Run.ok; omega)]; rfl
        · intro h33
          (try simp only [Bool.not_eq_true', Bool.not_eq_false', decide_eq_true_eq, decide_eq_false_iff_not] at h33)
          refine JL.want rfl rfl ?_
          refine JL.fieldAddr rfl Try.underlying140 rfl sh3 rfl ?_
          refine JL.want rfl rfl ?_
          refine JL.loadB 0 H rfl sh3 rfl rfl rfl ?_
          refine JL.want rfl rfl ?_
          refine JL.fieldAddr rfl Try.underlying140 rfl sh3 rfl ?_
          refine JL.want rfl rfl ?_
          refine JL.loadB 0 H rfl sh3 rfl rfl rfl ?_
          refine JL.want rfl rfl ?_
          refine JL.arith rfl (by unfold In64; omega) rfl ?_
          refine JL.want rfl rfl ?_
          refine JL.callP H fb144 rfl rfl (within_c _ _ _ _) ?_
          intro w8 H _
          refine JL.want rfl rfl ?_
          refine JL.pure rfl rfl ?_
          refine JL.pure rfl rfl ?_
          refine JL.pure rfl rfl ?_
          refine JL.cases 42 rfl ?_ ?_
          · intro h42
            (try simp only [Bool.not_eq_true', Bool.not_eq_false', decide_eq_true_eq, decide_eq_false_iff_not] at h42)
            refine JL.pass rfl rfl rfl rfl ?_
            refine JL.pass rfl rfl rfl rfl ?_
            refine JL.pass rfl rfl rfl rfl ?_
            refine JL.pass rfl rfl rfl rfl ?_
            refine JL.pass rfl rfl rfl rfl ?_
            refine JL.pass rfl rfl rfl rfl ?_
            refine JL.passU rfl rfl rfl ?_
            refine JL.passU rfl rfl rfl ?_
            refine JL.passU rfl rfl rfl ?_
            refine JL.passU rfl rfl rfl ?_
            refine JL.passU rfl rfl rfl ?_
            refine JL.pass rfl rfl rfl rfl ?_
            refine JL.pure rfl rfl ?_
            refine JL.nil ?_
            ((repeat refine Ex.normal_block ?_); refine Ex.next ?_)
            ((repeat refine JC.seq ?_); refine JC.cond rfl (fun _ => ?_) (fun h => by cases h))
            ((repeat refine JC.seq ?_); refine JC.region ?_)
            refine JL.pure rfl rfl ?_
            refine JL.nil ?_
            ((repeat refine Ex.normal_block ?_); refine Ex.next ?_)
            ((repeat refine JC.seq ?_); refine JC.ret ?_)
            (repeat (first | refine Ex.ret_then ?_ | refine Ex.ret_block ?_))
            refine Ex.ret1 rfl (.tmp rfl) ?_
            refine ⟨?_, H.below⟩
            unfold rightB
            rw [rightFrom_no h12 hinv (by unfold Run.ok; omega)]; rfl
          · intro h42
            (try simp only [Bool.not_eq_true', Bool.not_eq_false', decide_eq_true_eq, decide_eq_false_iff_not] at h42)
            refine JL.want rfl rfl ?_
            refine JL.fieldAddr rfl Try.underlying140 rfl sh3 rfl ?_
            refine JL.want rfl rfl ?_
            refine JL.loadB 0 H rfl sh3 rfl rfl rfl ?_
            refine JL.want rfl rfl ?_
            refine JL.fieldAddr rfl Try.underlying140 rfl sh3 rfl ?_
            refine JL.want rfl rfl ?_
            refine JL.loadB 1 H rfl sh3 rfl rfl rfl ?_
            refine JL.want rfl rfl ?_
            refine JL.pure rfl rfl ?_
            refine JL.want rfl rfl ?_
            refine JL.pure rfl rfl ?_
            refine JL.cases 48 rfl ?_ ?_
            · intro h48
              (try simp only [Bool.not_eq_true', Bool.not_eq_false', decide_eq_true_eq, decide_eq_false_iff_not] at h48)
              refine JL.want rfl rfl ?_
              refine JL.fieldAddr rfl Try.underlying140 rfl sh3 rfl ?_
              refine JL.want rfl rfl ?_
              refine JL.loadB 0 H rfl sh3 rfl rfl rfl ?_
              refine JL.want rfl rfl ?_
              refine JL.fieldAddr rfl Try.underlying140 rfl sh3 rfl ?_
              refine JL.want rfl rfl ?_
              refine JL.loadB 1 H rfl sh3 rfl rfl rfl ?_
              refine JL.want rfl rfl ?_
              refine JL.pure rfl rfl ?_
              refine JL.want rfl rfl ?_
              refine JL.pure rfl rfl ?_
              refine JL.pure rfl rfl ?_
              refine JL.nil ?_
              ((repeat refine Ex.normal_block ?_); refine Ex.next ?_)
              ((repeat refine JC.seq ?_); refine JC.cond rfl ?_ ?_)
              · intro h55
                (try simp only [Bool.not_eq_true', Bool.not_eq_false', decide_eq_true_eq, decide_eq_false_iff_not] at h55)
                ((repeat refine JC.seq ?_); refine JC.region ?_)
                refine JL.pure rfl rfl ?_
                refine JL.nil ?_
                ((repeat refine Ex.normal_block ?_); refine Ex.next ?_)
                ((repeat refine JC.seq ?_); refine JC.ret ?_)
                (repeat (first | refine Ex.ret_then ?_ | refine Ex.ret_block ?_))
                refine Ex.ret1 rfl (.tmp rfl) ?_
                refine ⟨?_, H.below⟩
                unfold rightB
                rw [rightFrom_no h12 hinv (by unfold Run.ok; omega)]; rfl
              · intro h55
                (try simp only [Bool.not_eq_true', Bool.not_eq_false', decide_eq_true_eq, decide_eq_false_iff_not] at h55)
                ((repeat refine JC.seq ?_); refine JC.skip ?_)
                ((repeat refine Ex.normal_block ?_); refine Ex.next ?_)
                ((repeat refine JC.seq ?_); refine JC.region ?_)
                refine JL.loadB 0 H rfl sh140 rfl rfl rfl ?_
                refine JL.storeB 1 H rfl rfl sh140 rfl rfl rfl rfl rfl ?_
                intro w9 H
                refine JL.nil ?_
                ((repeat refine Ex.normal_block ?_); refine Ex.next ?_)
                ((repeat refine JC.seq ?_); refine JC.region ?_)
                refine JL.arith rfl (by unfold In64; omega) rfl ?_
                refine JL.pure rfl rfl ?_
                refine JL.nil ?_
                (repeat refine Ex.normal_block ?_)
                have hok : Run.ok W H0 l rs[k] := by unfold Run.ok; simp at *; omega
                refine Ex.again (k + 1, rs[k]) ⟨rfl, rfl, rfl, rfl, rfl, rfl, trivial⟩ ⟨h12, rightFrom_yes h12 hinv hok, ?_, ?_, ?_, H.drop 0⟩ (by simp; omega) <;> unfold Run.ok at hok <;> simp <;> omega
            · intro h48
              (try simp only [Bool.not_eq_true', Bool.not_eq_false', decide_eq_true_eq, decide_eq_false_iff_not] at h48)
              refine JL.pass rfl rfl rfl rfl ?_
              refine JL.pass rfl rfl rfl rfl ?_
              refine JL.pass rfl rfl rfl rfl ?_
              refine JL.pass rfl rfl rfl rfl ?_
              refine JL.pass rfl rfl rfl rfl ?_
              refine JL.want rfl rfl ?_
              refine JL.pure rfl rfl ?_
              refine JL.pure rfl rfl ?_
              refine JL.nil ?_
              ((repeat refine Ex.normal_block ?_); refine Ex.next ?_)
              ((repeat refine JC.seq ?_); refine JC.cond rfl (fun h => by cases h) (fun _ => ?_))
              ((repeat refine JC.seq ?_); refine JC.skip ?_)
              ((repeat refine Ex.normal_block ?_); refine Ex.next ?_)
              ((repeat refine JC.seq ?_); refine JC.region ?_)
              refine JL.loadB 0 H rfl sh140 rfl rfl rfl ?_
              refine JL.storeB 1 H rfl rfl sh140 rfl rfl rfl rfl rfl ?_
              intro w10 H
              refine JL.nil ?_
              ((repeat refine Ex.normal_block ?_); refine Ex.next ?_)
              ((repeat refine JC.seq ?_); refine JC.region ?_)
              refine JL.arith rfl (by unfold In64; omega) rfl ?_
              refine JL.pure rfl rfl ?_
              refine JL.nil ?_
              (repeat refine Ex.normal_block ?_)
              have hok : Run.ok W H0 l rs[k] := by unfold Run.ok; simp at *; omega
              refine Ex.again (k + 1, rs[k]) ⟨rfl, rfl, rfl, rfl, rfl, rfl, trivial⟩ ⟨h12, rightFrom_yes h12 hinv hok, ?_, ?_, ?_, H.drop 0⟩ (by simp; omega) <;> unfold Run.ok at hok <;> simp <;> omega
    · intro h12
      (try simp only [Bool.not_eq_true', Bool.not_eq_false', decide_eq_true_eq, decide_eq_false_iff_not] at h12)
      
      ((repeat refine JC.seq ?_); refine JC.exit ?_)
      (repeat (first | refine Ex.exit_then ?_ | refine Ex.exit_miss (by decide) ?_))
      refine Ex.exit_hit ?_
      ((repeat refine Ex.normal_block ?_); refine Ex.next ?_)
      ((repeat refine JC.seq ?_); refine JC.region ?_)
      refine JL.pure rfl rfl ?_
      refine JL.len rfl Try.underlying50 rfl ?_
      refine JL.pure rfl rfl ?_
      refine JL.pure rfl rfl ?_
      refine JL.nil ?_
      ((repeat refine Ex.normal_block ?_); refine Ex.next ?_)
      ((repeat refine JC.seq ?_); refine JC.ret ?_)
      (repeat (first | refine Ex.ret_then ?_ | refine Ex.ret_block ?_))
      refine Ex.ret1 rfl (.tmp rfl) ?_
      refine ⟨?_, H.below⟩
      unfold rightB
      have : k = rs.length := by omega
      subst this
      rw [hinv]; simp [rightFrom]
      omega
end Go.J

namespace Go.J
open Go.RowKit Go.Proofs
set_option maxRecDepth 8000
set_option linter.unusedSimpArgs false
set_option linter.unusedVariables false

theorem index_run (v : Value) (xs : List Run) (p : Run → Bool) (f : FuncId) (capt : List Value) (w : World) (hb : hasBody Try.prog f = true) (hv : Sl Run.ev (true, 3) w v xs)
    (hp : ∀ w', Below w.heap.size w w' → ∀ x, x ∈ xs → Pur Try.prog f ([Run.ev x] ++ capt).toArray w' (.bool (p x))) :
    Pur Try.prog 220 #[v, .func (.func f) #[] ⟨capt⟩] w (.int .i64 (if xs.any p then (xs.findIdx p : Int) else -1)) := by
  obtain ⟨hlen, a, cap, rfl, ha⟩ := hv
  refine pur_J (args := [.slice a xs.length cap, .func (.func f) #[] ⟨capt⟩]) Try.func220 rfl Try.ntmps220 rfl ?_
  have H := Own.start w
  ((repeat refine JC.seq ?_); refine JC.region ?_)
  refine JL.pure rfl rfl ?_
  refine JL.nil ?_
  ((repeat refine Ex.normal_block ?_); refine Ex.next ?_)
  ((repeat refine JC.seq ?_); refine JC.region ?_)
  refine JL.pure rfl rfl ?_
  refine JL.len rfl Try.underlying50 rfl ?_
  refine JL.pure rfl rfl ?_
  refine JL.nil ?_
  ((repeat refine Ex.normal_block ?_); refine Ex.next ?_)
  ((repeat refine JC.seq ?_); refine JC.block ?_)
  ((repeat refine JC.seq ?_); refine JC.loop (ι := Nat) (fun k => [(0, .slice a xs.length cap), (1, .func (.func f) #[] ⟨capt⟩), (7, .int .i64 xs.length), (8, .int .i64 k)])
    (fun k wr => k ≤ xs.length ∧ (∀ (j : Nat) (h : j < xs.length), j < k → p xs[j] = false) ∧ Own w wr [])
    (fun k => xs.length - k) 0 ?_ ?_ ?_)
  · exact ⟨rfl, rfl, rfl, rfl, trivial⟩
  · exact ⟨Nat.zero_le _, fun j _ h => by omega, H⟩
  · rintro k wr ⟨hk, hno, H⟩
    ((repeat refine JC.seq ?_); refine JC.region ?_)
    refine JL.pure rfl rfl ?_
    refine JL.nil ?_
    ((repeat refine Ex.normal_block ?_); refine Ex.next ?_)
    ((repeat refine JC.seq ?_); refine JC.cond rfl ?_ ?_)
    · intro h9
      (try simp only [Bool.not_eq_true', Bool.not_eq_false', decide_eq_true_eq, decide_eq_false_iff_not] at h9)
      have h9 : k < xs.length := by omega
      obtain ⟨β, off, rfl, hβ, hc⟩ := ha.resolve_left (by rintro rfl; simp at h9)
      have hx : xs[k]? = some xs[k] := by simp [h9]
      ((repeat refine JC.seq ?_); refine JC.skip ?_)
      ((repeat refine Ex.normal_block ?_); refine Ex.next ?_)
      ((repeat refine JC.seq ?_); refine JC.block ?_)
      ((repeat refine JC.seq ?_); refine JC.region ?_)
      refine JL.pure rfl rfl ?_
      refine JL.pure rfl rfl ?_
      refine JL.nil ?_
      ((repeat refine Ex.normal_block ?_); refine Ex.next ?_)
      ((repeat refine JC.seq ?_); refine JC.region ?_)
      refine JL.pure rfl rfl ?_
      refine JL.pure rfl rfl ?_
      refine JL.pure rfl rfl ?_
      refine JL.indexS k rfl rfl Try.underlying50 sh140 rfl h9 rfl ?_
      refine JL.load rfl sh140 ((hc k _ hx).grow hβ H.below) rfl ?_
      refine JL.callvP H rfl hb rfl rfl (hp _ H.below _ (List.getElem_mem h9)) ?_
      intro w1 H _
      refine JL.nil ?_
      ((repeat refine Ex.normal_block ?_); refine Ex.next ?_)
      ((repeat refine JC.seq ?_); refine JC.cond rfl ?_ ?_)
      · intro h16
        (try simp only [Bool.not_eq_true', Bool.not_eq_false', decide_eq_true_eq, decide_eq_false_iff_not] at h16)
        ((repeat refine JC.seq ?_); refine JC.region ?_)
        refine JL.pure rfl rfl ?_
        refine JL.pure rfl rfl ?_
        refine JL.nil ?_
        ((repeat refine Ex.normal_block ?_); refine Ex.next ?_)
        ((repeat refine JC.seq ?_); refine JC.ret ?_)
        (repeat (first | refine Ex.ret_then ?_ | refine Ex.ret_block ?_))
        refine Ex.ret1 rfl (.tmp rfl) ⟨?_, H.below⟩
        rw [if_pos (List.any_eq_true.2 ⟨_, List.getElem_mem h9, h16⟩), (List.findIdx_eq h9).2 ⟨h16, fun j hj => hno j (by omega) hj⟩]
      · intro h16
        (try simp only [Bool.not_eq_true', Bool.not_eq_false', decide_eq_true_eq, decide_eq_false_iff_not] at h16)
        ((repeat refine JC.seq ?_); refine JC.skip ?_)
        ((repeat refine Ex.normal_block ?_); refine Ex.next ?_)
        ((repeat refine JC.seq ?_); refine JC.region ?_)
        refine JL.arith rfl (by unfold In64; omega) rfl ?_
        refine JL.pure rfl rfl ?_
        refine JL.nil ?_
        (repeat refine Ex.normal_block ?_)
        refine Ex.again (k + 1) ⟨rfl, rfl, rfl, rfl, trivial⟩ ⟨h9, fun j h hj => ?_, H⟩ (by omega)
        by_cases hjk : j = k
        · subst hjk; exact h16
        · exact hno j h (by omega)
    · intro h9
      (try simp only [Bool.not_eq_true', Bool.not_eq_false', decide_eq_true_eq, decide_eq_false_iff_not] at h9)
      
      ((repeat refine JC.seq ?_); refine JC.exit ?_)
      (repeat (first | refine Ex.exit_then ?_ | refine Ex.exit_miss (by decide) ?_))
      refine Ex.exit_hit ?_
      ((repeat refine Ex.normal_block ?_); refine Ex.next ?_)
      ((repeat refine JC.seq ?_); refine JC.region ?_)
      refine JL.pure rfl rfl ?_
      refine JL.nil ?_
      ((repeat refine Ex.normal_block ?_); refine Ex.next ?_)
      ((repeat refine JC.seq ?_); refine JC.ret ?_)
      (repeat (first | refine Ex.ret_then ?_ | refine Ex.ret_block ?_))
      refine Ex.ret1 rfl (.tmp rfl) ⟨?_, H.below⟩
      rw [if_neg]
      intro hh
      obtain ⟨x, hx, hpx⟩ := List.any_eq_true.1 hh
      obtain ⟨j, hj, rfl⟩ := List.getElem_of_mem hx
      rw [hno j hj (by omega)] at hpx
      cases hpx
theorem contains_run (v : Value) (xs : List Run) (p : Run → Bool) (f : FuncId) (capt : List Value) (w : World) (hb : hasBody Try.prog f = true) (hv : Sl Run.ev (true, 3) w v xs)
    (hp : ∀ w', Below w.heap.size w w' → ∀ x, x ∈ xs → Pur Try.prog f ([Run.ev x] ++ capt).toArray w' (.bool (p x))) :
    Pur Try.prog 136 #[v, .func (.func f) #[] ⟨capt⟩] w (.bool (xs.any p)) := by
  refine pur_J (args := [v, .func (.func f) #[] ⟨capt⟩]) Try.func136 rfl Try.ntmps136 rfl ?_
  have H := Own.start w
  ((repeat refine JC.seq ?_); refine JC.region ?_)
  refine JL.pure rfl rfl ?_
  refine JL.nil ?_
  ((repeat refine Ex.normal_block ?_); refine Ex.next ?_)
  ((repeat refine JC.seq ?_); refine JC.region ?_)
  refine JL.pure rfl rfl ?_
  refine JL.pure rfl rfl ?_
  refine JL.callP H fb220 rfl rfl (index_run v xs p f capt _ hb (hv.grow H.below) (fun w2 h2 => hp _ (by have h1 := H.below; exact h1.trans (h2.mono h1.size)))) ?_
  intro w1 H _
  refine JL.pure rfl rfl ?_
  refine JL.pure rfl rfl ?_
  refine JL.nil ?_
  ((repeat refine Ex.normal_block ?_); refine Ex.next ?_)
  ((repeat refine JC.seq ?_); refine JC.ret ?_)
  (repeat (first | refine Ex.ret_then ?_ | refine Ex.ret_block ?_))
  refine Ex.ret1 rfl (.tmp rfl) ⟨?_, H.below⟩
  by_cases h : xs.any p = true
  · rw [if_pos h, h]; simp
  · rw [if_neg h, Bool.eq_false_iff.2 h]; rfl


theorem index_rows (v : Value) (xs : List (Value × List Run)) (p : (Value × List Run) → Bool) (f : FuncId) (capt : List Value) (w : World) (hb : hasBody Try.prog f = true) (hv : Sl Prod.fst (false, 1) w v xs)
    (hp : ∀ w', Below w.heap.size w w' → ∀ x, x ∈ xs → Pur Try.prog f ([Prod.fst x] ++ capt).toArray w' (.bool (p x))) :
    Pur Try.prog 274 #[v, .func (.func f) #[] ⟨capt⟩] w (.int .i64 (if xs.any p then (xs.findIdx p : Int) else -1)) := by
  obtain ⟨hlen, a, cap, rfl, ha⟩ := hv
  refine pur_J (args := [.slice a xs.length cap, .func (.func f) #[] ⟨capt⟩]) Try.func274 rfl Try.ntmps274 rfl ?_
  have H := Own.start w
  ((repeat refine JC.seq ?_); refine JC.region ?_)
  refine JL.pure rfl rfl ?_
  refine JL.nil ?_
  ((repeat refine Ex.normal_block ?_); refine Ex.next ?_)
  ((repeat refine JC.seq ?_); refine JC.region ?_)
  refine JL.pure rfl rfl ?_
  refine JL.len rfl Try.underlying134 rfl ?_
  refine JL.pure rfl rfl ?_
  refine JL.nil ?_
  ((repeat refine Ex.normal_block ?_); refine Ex.next ?_)
  ((repeat refine JC.seq ?_); refine JC.block ?_)
  ((repeat refine JC.seq ?_); refine JC.loop (ι := Nat) (fun k => [(0, .slice a xs.length cap), (1, .func (.func f) #[] ⟨capt⟩), (7, .int .i64 xs.length), (8, .int .i64 k)])
    (fun k wr => k ≤ xs.length ∧ (∀ (j : Nat) (h : j < xs.length), j < k → p xs[j] = false) ∧ Own w wr [])
    (fun k => xs.length - k) 0 ?_ ?_ ?_)
  · exact ⟨rfl, rfl, rfl, rfl, trivial⟩
  · exact ⟨Nat.zero_le _, fun j _ h => by omega, H⟩
  · rintro k wr ⟨hk, hno, H⟩
    ((repeat refine JC.seq ?_); refine JC.region ?_)
    refine JL.pure rfl rfl ?_
    refine JL.nil ?_
    ((repeat refine Ex.normal_block ?_); refine Ex.next ?_)
    ((repeat refine JC.seq ?_); refine JC.cond rfl ?_ ?_)
    · intro h9
      (try simp only [Bool.not_eq_true', Bool.not_eq_false', decide_eq_true_eq, decide_eq_false_iff_not] at h9)
      have h9 : k < xs.length := by omega
      obtain ⟨β, off, rfl, hβ, hc⟩ := ha.resolve_left (by rintro rfl; simp at h9)
      have hx : xs[k]? = some xs[k] := by simp [h9]
      ((repeat refine JC.seq ?_); refine JC.skip ?_)
      ((repeat refine Ex.normal_block ?_); refine Ex.next ?_)
      ((repeat refine JC.seq ?_); refine JC.block ?_)
      ((repeat refine JC.seq ?_); refine JC.region ?_)
      refine JL.pure rfl rfl ?_
      refine JL.pure rfl rfl ?_
      refine JL.nil ?_
      ((repeat refine Ex.normal_block ?_); refine Ex.next ?_)
      ((repeat refine JC.seq ?_); refine JC.region ?_)
      refine JL.pure rfl rfl ?_
      refine JL.pure rfl rfl ?_
      refine JL.pure rfl rfl ?_
      refine JL.indexS k rfl rfl Try.underlying134 sh50 rfl h9 rfl ?_
      refine JL.load rfl sh50 ((hc k _ hx).grow hβ H.below) rfl ?_
      refine JL.callvP H rfl hb rfl rfl (hp _ H.below _ (List.getElem_mem h9)) ?_
      intro w1 H _
      refine JL.nil ?_
      ((repeat refine Ex.normal_block ?_); refine Ex.next ?_)
      ((repeat refine JC.seq ?_); refine JC.cond rfl ?_ ?_)
      · intro h16
        (try simp only [Bool.not_eq_true', Bool.not_eq_false', decide_eq_true_eq, decide_eq_false_iff_not] at h16)
        ((repeat refine JC.seq ?_); refine JC.region ?_)
        refine JL.pure rfl rfl ?_
        refine JL.pure rfl rfl ?_
        refine JL.nil ?_
        ((repeat refine Ex.normal_block ?_); refine Ex.next ?_)
        ((repeat refine JC.seq ?_); refine JC.ret ?_)
        (repeat (first | refine Ex.ret_then ?_ | refine Ex.ret_block ?_))
        refine Ex.ret1 rfl (.tmp rfl) ⟨?_, H.below⟩
        rw [if_pos (List.any_eq_true.2 ⟨_, List.getElem_mem h9, h16⟩), (List.findIdx_eq h9).2 ⟨h16, fun j hj => hno j (by omega) hj⟩]
      · intro h16
        (try simp only [Bool.not_eq_true', Bool.not_eq_false', decide_eq_true_eq, decide_eq_false_iff_not] at h16)
        ((repeat refine JC.seq ?_); refine JC.skip ?_)
        ((repeat refine Ex.normal_block ?_); refine Ex.next ?_)
        ((repeat refine JC.seq ?_); refine JC.region ?_)
        refine JL.arith rfl (by unfold In64; omega) rfl ?_
        refine JL.pure rfl rfl ?_
        refine JL.nil ?_
        (repeat refine Ex.normal_block ?_)
        refine Ex.again (k + 1) ⟨rfl, rfl, rfl, rfl, trivial⟩ ⟨h9, fun j h hj => ?_, H⟩ (by omega)
        by_cases hjk : j = k
        · subst hjk; exact h16
        · exact hno j h (by omega)
    · intro h9
      (try simp only [Bool.not_eq_true', Bool.not_eq_false', decide_eq_true_eq, decide_eq_false_iff_not] at h9)
      
      ((repeat refine JC.seq ?_); refine JC.exit ?_)
      (repeat (first | refine Ex.exit_then ?_ | refine Ex.exit_miss (by decide) ?_))
      refine Ex.exit_hit ?_
      ((repeat refine Ex.normal_block ?_); refine Ex.next ?_)
      ((repeat refine JC.seq ?_); refine JC.region ?_)
      refine JL.pure rfl rfl ?_
      refine JL.nil ?_
      ((repeat refine Ex.normal_block ?_); refine Ex.next ?_)
      ((repeat refine JC.seq ?_); refine JC.ret ?_)
      (repeat (first | refine Ex.ret_then ?_ | refine Ex.ret_block ?_))
      refine Ex.ret1 rfl (.tmp rfl) ⟨?_, H.below⟩
      rw [if_neg]
      intro hh
      obtain ⟨x, hx, hpx⟩ := List.any_eq_true.1 hh
      obtain ⟨j, hj, rfl⟩ := List.getElem_of_mem hx
      rw [hno j hj (by omega)] at hpx
      cases hpx
theorem contains_rows (v : Value) (xs : List (Value × List Run)) (p : (Value × List Run) → Bool) (f : FuncId) (capt : List Value) (w : World) (hb : hasBody Try.prog f = true) (hv : Sl Prod.fst (false, 1) w v xs)
    (hp : ∀ w', Below w.heap.size w w' → ∀ x, x ∈ xs → Pur Try.prog f ([Prod.fst x] ++ capt).toArray w' (.bool (p x))) :
    Pur Try.prog 214 #[v, .func (.func f) #[] ⟨capt⟩] w (.bool (xs.any p)) := by
  refine pur_J (args := [v, .func (.func f) #[] ⟨capt⟩]) Try.func214 rfl Try.ntmps214 rfl ?_
  have H := Own.start w
  ((repeat refine JC.seq ?_); refine JC.region ?_)
  refine JL.pure rfl rfl ?_
  refine JL.nil ?_
  ((repeat refine Ex.normal_block ?_); refine Ex.next ?_)
  ((repeat refine JC.seq ?_); refine JC.region ?_)
  refine JL.pure rfl rfl ?_
  refine JL.pure rfl rfl ?_
  refine JL.callP H fb274 rfl rfl (index_rows v xs p f capt _ hb (hv.grow H.below) (fun w2 h2 => hp _ (by have h1 := H.below; exact h1.trans (h2.mono h1.size)))) ?_
  intro w1 H _
  refine JL.pure rfl rfl ?_
  refine JL.pure rfl rfl ?_
  refine JL.nil ?_
  ((repeat refine Ex.normal_block ?_); refine Ex.next ?_)
  ((repeat refine JC.seq ?_); refine JC.ret ?_)
  (repeat (first | refine Ex.ret_then ?_ | refine Ex.ret_block ?_))
  refine Ex.ret1 rfl (.tmp rfl) ⟨?_, H.below⟩
  by_cases h : xs.any p = true
  · rw [if_pos h, h]; simp
  · rw [if_neg h, Bool.eq_false_iff.2 h]; rfl


end Go.J

namespace Go.J
open Go.RowKit Go.Proofs
set_option maxRecDepth 8000
set_option linter.unusedSimpArgs false
set_option linter.unusedVariables false
def Spot.ok (s : Spot) : Bool := decide (-16777216 ≤ s.X ∧ s.X ≤ 16777216) && decide (-16777216 ≤ s.Y ∧ s.Y ≤ 16777216)
structure Cell where
  X : Int
  Y : Int
deriving DecidableEq
def Cell.ev (s : Cell) : Value := .agg ⟨[.int .i64 s.X, .int .i64 s.Y]⟩
def Run.has (c : Cell) (r : Run) : Bool := decide (r.Y = c.Y) && decide (r.From ≤ c.X) && decide (c.X < r.To)
def hasB (rs : List Run) (c : Cell) : Bool := rs.any (Run.has c)
structure Grid where
  W : Int
  H : Int
  S : Int
  land : List Run
def Grid.ev (g : Grid) (lv : Value) : Value := .agg ⟨[.int .i64 g.W, .int .i64 g.H, .int .i64 g.S, lv]⟩
def Grid.ok (g : Grid) : Bool := decide (1 ≤ g.W ∧ g.W ≤ 256) && decide (1 ≤ g.H ∧ g.H ≤ 256) && decide (1 ≤ g.S ∧ g.S ≤ 50000) && rightB g.W g.H g.land
theorem has1_c (r : Run) (c : Cell) (β off : Nat) (w : World) (hβ : β < w.heap.size) (hc : LdAt w β off (true, 2) c.ev) : Pur Try.prog 137 #[r.ev, .pointer (some ⟨β, off, none⟩)] w (.bool (r.has c)) := by
  refine pur_J (args := [r.ev, .pointer (some ⟨β, off, none⟩)]) Try.func137 rfl Try.ntmps137 rfl ?_
  have H := Own.start w
  ((repeat refine JC.seq ?_); refine JC.region ?_)
  refine JL.box H rfl rfl rfl ?_
  intro b2 w1 H
  refine JL.pure rfl rfl ?_
  refine JL.nil ?_
  ((repeat refine Ex.normal_block ?_); refine Ex.next ?_)
  ((repeat refine JC.seq ?_); refine JC.region ?_)
  refine JL.fieldAddr rfl Try.underlying140 rfl sh3 rfl ?_
  refine JL.loadB 0 H rfl sh3 rfl rfl rfl ?_
  refine JL.fieldAddr rfl Try.underlying62 rfl sh3 rfl ?_
  refine JL.load rfl sh3 ((hc.part 1 rfl _).grow hβ H.below) rfl ?_
  refine JL.pure rfl rfl ?_
  refine JL.pure rfl rfl ?_
  refine JL.cases 9 rfl ?_ ?_
  · intro h9
    (try simp only [Bool.not_eq_true', Bool.not_eq_false', decide_eq_true_eq, decide_eq_false_iff_not] at h9)
    refine JL.want rfl rfl ?_
    refine JL.fieldAddr rfl Try.underlying140 rfl sh3 rfl ?_
    refine JL.want rfl rfl ?_
    refine JL.loadB 0 H rfl sh3 rfl rfl rfl ?_
    refine JL.want rfl rfl ?_
    refine JL.fieldAddr rfl Try.underlying62 rfl sh3 rfl ?_
    refine JL.want rfl rfl ?_
    refine JL.load rfl sh3 ((hc.part 0 rfl _).grow hβ H.below) rfl ?_
    refine JL.want rfl rfl ?_
    refine JL.pure rfl rfl ?_
    refine JL.pure rfl rfl ?_
    refine JL.pure rfl rfl ?_
    refine JL.cases 16 rfl ?_ ?_
    · intro h16
      (try simp only [Bool.not_eq_true', Bool.not_eq_false', decide_eq_true_eq, decide_eq_false_iff_not] at h16)
      refine JL.want rfl rfl ?_
      refine JL.fieldAddr rfl Try.underlying62 rfl sh3 rfl ?_
      refine JL.want rfl rfl ?_
      refine JL.load rfl sh3 ((hc.part 0 rfl _).grow hβ H.below) rfl ?_
      refine JL.want rfl rfl ?_
      refine JL.fieldAddr rfl Try.underlying140 rfl sh3 rfl ?_
      refine JL.want rfl rfl ?_
      refine JL.loadB 0 H rfl sh3 rfl rfl rfl ?_
      refine JL.want rfl rfl ?_
      refine JL.pure rfl rfl ?_
      refine JL.pure rfl rfl ?_
      refine JL.pure rfl rfl ?_
      refine JL.nil ?_
      ((repeat refine Ex.normal_block ?_); refine Ex.next ?_)
      ((repeat refine JC.seq ?_); refine JC.ret ?_)
      (repeat (first | refine Ex.ret_then ?_ | refine Ex.ret_block ?_))
      refine Ex.ret1 rfl (.tmp rfl) ⟨?_, H.below⟩
      unfold Run.has
      simp [*]
    · intro h16
      (try simp only [Bool.not_eq_true', Bool.not_eq_false', decide_eq_true_eq, decide_eq_false_iff_not] at h16)
      refine JL.pass rfl rfl rfl rfl ?_
      refine JL.pass rfl rfl rfl rfl ?_
      refine JL.pass rfl rfl rfl rfl ?_
      refine JL.pass rfl rfl rfl rfl ?_
      refine JL.pass rfl rfl rfl rfl ?_
      refine JL.pure rfl rfl ?_
      refine JL.pure rfl rfl ?_
      refine JL.nil ?_
      ((repeat refine Ex.normal_block ?_); refine Ex.next ?_)
      ((repeat refine JC.seq ?_); refine JC.ret ?_)
      (repeat (first | refine Ex.ret_then ?_ | refine Ex.ret_block ?_))
      refine Ex.ret1 rfl (.tmp rfl) ⟨?_, H.below⟩
      unfold Run.has
      simp [*]
  · intro h9
    (try simp only [Bool.not_eq_true', Bool.not_eq_false', decide_eq_true_eq, decide_eq_false_iff_not] at h9)
    refine JL.pass rfl rfl rfl rfl ?_
    refine JL.pass rfl rfl rfl rfl ?_
    refine JL.pass rfl rfl rfl rfl ?_
    refine JL.pass rfl rfl rfl rfl ?_
    refine JL.pass rfl rfl rfl rfl ?_
    refine JL.pure rfl rfl ?_
    refine JL.pure rfl rfl ?_
    refine JL.pass rfl rfl rfl rfl ?_
    refine JL.pass rfl rfl rfl rfl ?_
    refine JL.pass rfl rfl rfl rfl ?_
    refine JL.pass rfl rfl rfl rfl ?_
    refine JL.pass rfl rfl rfl rfl ?_
    refine JL.pure rfl rfl ?_
    refine JL.pure rfl rfl ?_
    refine JL.nil ?_
    ((repeat refine Ex.normal_block ?_); refine Ex.next ?_)
    ((repeat refine JC.seq ?_); refine JC.ret ?_)
    (repeat (first | refine Ex.ret_then ?_ | refine Ex.ret_block ?_))
    refine Ex.ret1 rfl (.tmp rfl) ⟨?_, H.below⟩
    unfold Run.has
    simp [*]
theorem has_c (v : Value) (rs : List Run) (c : Cell) (w : World) (hv : SlR w v rs) : Pur Try.prog 48 #[v, c.ev] w (.bool (hasB rs c)) := by
  refine pur_J (args := [v, c.ev]) Try.func48 rfl Try.ntmps48 rfl ?_
  have H := Own.start w
  ((repeat refine JC.seq ?_); refine JC.region ?_)
  refine JL.box H rfl rfl rfl ?_
  intro b3 w1 H
  refine JL.pure rfl rfl ?_
  refine JL.nil ?_
  ((repeat refine Ex.normal_block ?_); refine Ex.next ?_)
  ((repeat refine JC.seq ?_); refine JC.region ?_)
  refine JL.pure rfl rfl ?_
  refine JL.pure rfl rfl ?_
  have hg := H.get (i := 0) rfl
  have hlt : b3 < w1.heap.size := lt_of_block hg.2
  refine JL.callP H fb136 rfl rfl (contains_run v rs (Run.has c) 137 [.pointer (some ⟨b3, 0, none⟩)] _ fb137 (hv.grow H.below) (fun w' hb' r _ => has1_c r c b3 0 w' (Nat.lt_of_lt_of_le hlt hb'.size) ((LdAt.of_block hg.2 rfl).grow hlt hb'))) ?_
  intro w2 H _
  refine JL.pure rfl rfl ?_
  refine JL.nil ?_
  ((repeat refine Ex.normal_block ?_); refine Ex.next ?_)
  ((repeat refine JC.seq ?_); refine JC.ret ?_)
  (repeat (first | refine Ex.ret_then ?_ | refine Ex.ret_block ?_))
  refine Ex.ret1 rfl (.tmp rfl) ⟨rfl, H.below⟩
theorem checkGrid_c (g : Grid) (lv : Value) (w : World) (hl : SlR w lv g.land) : Pur Try.prog 141 #[g.ev lv] w (.int .i64 (if g.ok then 0 else 2)) := by
  refine pur_J (args := [g.ev lv]) Try.func141 rfl Try.ntmps141 rfl ?_
  have H := Own.start w
  ((repeat refine JC.seq ?_); refine JC.region ?_)
  refine JL.box H rfl rfl rfl ?_
  intro b1 w1 H
  refine JL.pure rfl rfl ?_
  refine JL.nil ?_
  ((repeat refine Ex.normal_block ?_); refine Ex.next ?_)
  ((repeat refine JC.seq ?_); refine JC.region ?_)
  refine JL.fieldAddr rfl Try.underlying52 rfl sh3 rfl ?_
  refine JL.loadB 0 H rfl sh3 rfl rfl rfl ?_
  refine JL.callP H fb144 rfl rfl (within_c _ _ _ _) ?_
  intro w2 H _
  refine JL.pure rfl rfl ?_
  refine JL.pure rfl rfl ?_
  refine JL.cases 7 rfl ?_ ?_
  · intro h7
    (try simp only [Bool.not_eq_true', Bool.not_eq_false', decide_eq_true_eq, decide_eq_false_iff_not] at h7)
    refine JL.pass rfl rfl rfl rfl ?_
    refine JL.pass rfl rfl rfl rfl ?_
    refine JL.pass rfl rfl rfl rfl ?_
    refine JL.pass rfl rfl rfl rfl ?_
    refine JL.pure rfl rfl ?_
    refine JL.pure rfl rfl ?_
    refine JL.pass rfl rfl rfl rfl ?_
    refine JL.pass rfl rfl rfl rfl ?_
    refine JL.pass rfl rfl rfl rfl ?_
    refine JL.pass rfl rfl rfl rfl ?_
    refine JL.pure rfl rfl ?_
    refine JL.pure rfl rfl ?_
    refine JL.pass rfl rfl rfl rfl ?_
    refine JL.pass rfl rfl rfl rfl ?_
    refine JL.pass rfl rfl rfl rfl ?_
    refine JL.pass rfl rfl rfl rfl ?_
    refine JL.pass rfl rfl rfl rfl ?_
    refine JL.pure rfl rfl ?_
    refine JL.nil ?_
    ((repeat refine Ex.normal_block ?_); refine Ex.next ?_)
    ((repeat refine JC.seq ?_); refine JC.cond rfl (fun _ => ?_) (fun h => by cases h))
    ((repeat refine JC.seq ?_); refine JC.region ?_)
    refine JL.pure rfl rfl ?_
    refine JL.nil ?_
    ((repeat refine Ex.normal_block ?_); refine Ex.next ?_)
    ((repeat refine JC.seq ?_); refine JC.ret ?_)
    (repeat (first | refine Ex.ret_then ?_ | refine Ex.ret_block ?_))
    refine Ex.ret1 rfl (.tmp rfl) ⟨?_, H.below⟩
    rw [if_neg]
    unfold Grid.ok
    simp [*]
  · intro h7
    (try simp only [Bool.not_eq_true', Bool.not_eq_false', decide_eq_true_eq, decide_eq_false_iff_not] at h7)
    refine JL.want rfl rfl ?_
    refine JL.fieldAddr rfl Try.underlying52 rfl sh3 rfl ?_
    refine JL.want rfl rfl ?_
    refine JL.loadB 0 H rfl sh3 rfl rfl rfl ?_
    refine JL.want rfl rfl ?_
    refine JL.callP H fb144 rfl rfl (within_c _ _ _ _) ?_
    intro w3 H _
    refine JL.want rfl rfl ?_
    refine JL.pure rfl rfl ?_
    refine JL.pure rfl rfl ?_
    refine JL.pure rfl rfl ?_
    refine JL.cases 13 rfl ?_ ?_
    · intro h13
      (try simp only [Bool.not_eq_true', Bool.not_eq_false', decide_eq_true_eq, decide_eq_false_iff_not] at h13)
      refine JL.pass rfl rfl rfl rfl ?_
      refine JL.pass rfl rfl rfl rfl ?_
      refine JL.pass rfl rfl rfl rfl ?_
      refine JL.pass rfl rfl rfl rfl ?_
      refine JL.pure rfl rfl ?_
      refine JL.pure rfl rfl ?_
      refine JL.pass rfl rfl rfl rfl ?_
      refine JL.pass rfl rfl rfl rfl ?_
      refine JL.pass rfl rfl rfl rfl ?_
      refine JL.pass rfl rfl rfl rfl ?_
      refine JL.pass rfl rfl rfl rfl ?_
      refine JL.pure rfl rfl ?_
      refine JL.nil ?_
      ((repeat refine Ex.normal_block ?_); refine Ex.next ?_)
      ((repeat refine JC.seq ?_); refine JC.cond rfl (fun _ => ?_) (fun h => by cases h))
      ((repeat refine JC.seq ?_); refine JC.region ?_)
      refine JL.pure rfl rfl ?_
      refine JL.nil ?_
      ((repeat refine Ex.normal_block ?_); refine Ex.next ?_)
      ((repeat refine JC.seq ?_); refine JC.ret ?_)
      (repeat (first | refine Ex.ret_then ?_ | refine Ex.ret_block ?_))
      refine Ex.ret1 rfl (.tmp rfl) ⟨?_, H.below⟩
      rw [if_neg]
      unfold Grid.ok
      simp [*]
    · intro h13
      (try simp only [Bool.not_eq_true', Bool.not_eq_false', decide_eq_true_eq, decide_eq_false_iff_not] at h13)
      refine JL.want rfl rfl ?_
      refine JL.fieldAddr rfl Try.underlying52 rfl sh3 rfl ?_
      refine JL.want rfl rfl ?_
      refine JL.loadB 0 H rfl sh3 rfl rfl rfl ?_
      refine JL.want rfl rfl ?_
      refine JL.callP H fb144 rfl rfl (within_c _ _ _ _) ?_
      intro w4 H _
      refine JL.want rfl rfl ?_
      refine JL.pure rfl rfl ?_
      refine JL.pure rfl rfl ?_
      refine JL.pure rfl rfl ?_
      refine JL.cases 19 rfl ?_ ?_
      · intro h19
        (try simp only [Bool.not_eq_true', Bool.not_eq_false', decide_eq_true_eq, decide_eq_false_iff_not] at h19)
        refine JL.pass rfl rfl rfl rfl ?_
        refine JL.pass rfl rfl rfl rfl ?_
        refine JL.pass rfl rfl rfl rfl ?_
        refine JL.pass rfl rfl rfl rfl ?_
        refine JL.pass rfl rfl rfl rfl ?_
        refine JL.pure rfl rfl ?_
        refine JL.nil ?_
        ((repeat refine Ex.normal_block ?_); refine Ex.next ?_)
        ((repeat refine JC.seq ?_); refine JC.cond rfl (fun _ => ?_) (fun h => by cases h))
        ((repeat refine JC.seq ?_); refine JC.region ?_)
        refine JL.pure rfl rfl ?_
        refine JL.nil ?_
        ((repeat refine Ex.normal_block ?_); refine Ex.next ?_)
        ((repeat refine JC.seq ?_); refine JC.ret ?_)
        (repeat (first | refine Ex.ret_then ?_ | refine Ex.ret_block ?_))
        refine Ex.ret1 rfl (.tmp rfl) ⟨?_, H.below⟩
        rw [if_neg]
        unfold Grid.ok
        simp [*]
      · intro h19
        (try simp only [Bool.not_eq_true', Bool.not_eq_false', decide_eq_true_eq, decide_eq_false_iff_not] at h19)
        refine JL.want rfl rfl ?_
        refine JL.loadB 0 H rfl sh52 rfl rfl rfl ?_
        refine JL.want rfl rfl ?_
        refine JL.fieldAddr rfl Try.underlying52 rfl sh50 rfl ?_
        refine JL.want rfl rfl ?_
        refine JL.loadB 0 H rfl sh50 rfl rfl rfl ?_
        refine JL.want rfl rfl ?_
        refine JL.callP H fb216 rfl rfl (right_c _ _ _ _ _ g.land _ (hl.grow H.below) (by omega) (by omega)) ?_
        intro w5 H _
        refine JL.want rfl rfl ?_
        refine JL.pure rfl rfl ?_
        refine JL.pure rfl rfl ?_
        refine JL.nil ?_
        ((repeat refine Ex.normal_block ?_); refine Ex.next ?_)
        ((repeat refine JC.seq ?_); refine JC.cond rfl ?_ ?_)
        · intro h25
          (try simp only [Bool.not_eq_true', Bool.not_eq_false', decide_eq_true_eq, decide_eq_false_iff_not] at h25)
          ((repeat refine JC.seq ?_); refine JC.region ?_)
          refine JL.pure rfl rfl ?_
          refine JL.nil ?_
          ((repeat refine Ex.normal_block ?_); refine Ex.next ?_)
          ((repeat refine JC.seq ?_); refine JC.ret ?_)
          (repeat (first | refine Ex.ret_then ?_ | refine Ex.ret_block ?_))
          refine Ex.ret1 rfl (.tmp rfl) ⟨?_, H.below⟩
          rw [if_neg]
          unfold Grid.ok
          simp [*]
        · intro h25
          (try simp only [Bool.not_eq_true', Bool.not_eq_false', decide_eq_true_eq, decide_eq_false_iff_not] at h25)
          ((repeat refine JC.seq ?_); refine JC.skip ?_)
          ((repeat refine Ex.normal_block ?_); refine Ex.next ?_)
          ((repeat refine JC.seq ?_); refine JC.region ?_)
          refine JL.pure rfl rfl ?_
          refine JL.nil ?_
          ((repeat refine Ex.normal_block ?_); refine Ex.next ?_)
          ((repeat refine JC.seq ?_); refine JC.ret ?_)
          (repeat (first | refine Ex.ret_then ?_ | refine Ex.ret_block ?_))
          refine Ex.ret1 rfl (.tmp rfl) ⟨?_, H.below⟩
          rw [if_pos]
          unfold Grid.ok
          simp [*]
end Go.J

namespace Go.J
set_option linter.unusedSimpArgs false
set_option linter.unusedVariables false
open Go.RowKit

theorem Own.upd {w0 w : World} {L : List HP} {A B : HP} (H : Own w0 w L) {j : Nat} (hi : L[j]? = some A) (hAB : ∀ h, A h → B h) : Own w0 w (L.set j B) :=
  H.entail fun _ hs => starL_unfocus hi (star_mono hAB (fun _ h => h) (starL_focus hi hs))
/-- a fact of an entry -/
theorem Own.pick {p : Prop} {w0 w : World} {L : List HP} {A : HP} (H : Own w0 w L) {j : Nat} (hi : L[j]? = some A) (hA : ∀ h, A h → p) : p := by
  obtain ⟨hB, h, hl, hs⟩ := H
  obtain ⟨x, y, d, rfl, a, c⟩ := starL_focus hi hs
  exact hA _ a

/-- a slice of the call's own: nil, or from the begin of a block of its own on; xs: its cells -/
def row (e : TypeId) (sz : Nat) (v : Value) (n : Nat) (xs : List Value) : HP := fun h =>
  xs.length = n * sz ∧ ((v = .slice none 0 0 ∧ n = 0 ∧ ∀ k, h k = none) ∨
    ∃ g cap cur, v = .slice (some ⟨g, 0, none⟩) n cap ∧ n ≤ cap ∧ cap ≤ maxLen ∧ cur.size = cap * sz ∧ cur.toList.take (n * sz) = xs ∧ blk g (.cells cur e (0, 0)) h)

theorem row_nil (e : TypeId) (sz : Nat) (h : Hp) (he : emp h) : row e sz (.slice none 0 0) 0 [] h := ⟨by simp, .inl ⟨rfl, rfl, he⟩⟩
theorem row_of_blk {e : TypeId} {sz g n cap : Nat} {cur : Array Value} {xs : List Value} (hl : xs.length = n * sz) (h1 : n ≤ cap) (h2 : cap ≤ maxLen) (h3 : cur.size = cap * sz) (h4 : cur.toList.take (n * sz) = xs) (h : Hp)
    (hb : blk g (.cells cur e (0, 0)) h) : row e sz (.slice (some ⟨g, 0, none⟩) n cap) n xs h := ⟨hl, .inr ⟨g, cap, cur, rfl, h1, h2, h3, h4, hb⟩⟩

/-- an empty slice of ours -/
theorem Own.nilRow {w0 w : World} {L : List HP} (H : Own w0 w L) (e : TypeId) (sz : Nat) : Own w0 w (row e sz (.slice none 0 0) 0 [] :: L) := by
  refine H.entail fun h hs => ⟨fun _ => none, h, fun _ => .inl rfl, ?_, row_nil e sz _ (fun _ => rfl), hs⟩
  funext k; simp [Hp.add]

theorem Own.row_shape {w0 w : World} {L : List HP} (H : Own w0 w L) {j : Nat} {e : TypeId} {sz : Nat} {v : Value} {n : Nat} {xs : List Value} (hi : L[j]? = some (row e sz v n xs)) :
    xs.length = n * sz ∧ ((v = .slice none 0 0 ∧ n = 0) ∨ ∃ g cap cur, v = .slice (some ⟨g, 0, none⟩) n cap ∧ n ≤ cap ∧ cap ≤ maxLen ∧ cur.size = cap * sz ∧ cur.toList.take (n * sz) = xs ∧
      w0.heap.size ≤ g ∧ w.heap[g]? = some (.cells cur e (0, 0)) ∧ Own w0 w (L.set j (blk g (.cells cur e (0, 0))))) := by
  obtain ⟨hB, h, hl, hs⟩ := H
  obtain ⟨x, y, d, rfl, ⟨h1, h2⟩, c⟩ := starL_focus hi hs
  refine ⟨h1, ?_⟩
  rcases h2 with ⟨a, b, _⟩ | ⟨g, cap, cur, a1, a2, a3, a4, a5, a6⟩
  · exact .inl ⟨a, b⟩
  · have := hl g (.cells cur e (0, 0)) (by simp [Hp.add, a6.1])
    exact .inr ⟨g, cap, cur, a1, a2, a3, a4, a5, this.1, this.2, hB, _, hl, starL_unfocus hi ⟨x, y, d, rfl, a6, c⟩⟩

theorem oneV_one {v : Value} (h : oneV v = true) : v.oneCell' = true := by cases v <;> simp_all [oneV, Value.oneCell']
theorem allOne_mem : ∀ {l : List Value}, allOne l = true → ∀ v ∈ l, v.oneCell' = true := by
  intro l
  induction l with
  | nil => intro _ v h; cases h
  | cons x l ih =>
    intro h v hv
    simp only [allOne, Bool.and_eq_true] at h
    cases hv with
    | head => exact oneV_one h.1
    | tail _ hv => exact ih h.2 v hv

theorem Own.newRow {w0 w : World} {L : List HP} (H : Own w0 w L) {j : Nat} {A B : HP} (hi : L[j]? = some A) {o : Obj} (hB : ∀ h, blk w.heap.size o h → B h) : Own w0 (w.drew.alloc o) (L.set j B) := by
  have h1 : Own w0 (w.drew.alloc o) (blk w.heap.size o :: L) := H.drew.new o
  have h2 := h1.drop (j + 1)
  refine h2.entail fun h hs => ?_
  have hs' : star (blk w.heap.size o) (starL (L.eraseIdx j)) h := hs
  exact starL_unfocus hi (star_mono hB (fun _ h => h) hs')

theorem run_append_row {P : Program} {w0 w : World} {L : List HP} (H : Own w0 w L) {j : Nat} {e : TypeId} {v : Value} {n : Nat} {xs : List Value} (t ty : TypeId) (i : TypeInfo) (z : Value)
    (hi : L[j]? = some (row e i.size v n xs)) (ht : P.underlying t = some (.slice e)) (hinfo : P.info? e = some i) (hz : i.zero = some z) (hzs : z.cells.size = i.size) (hsz : 0 < i.size)
    (a : Addr) (m c : Nat) (news : List Value) (hl : news.length = m * i.size) (hnews : ∀ j u, news[j]? = some u → w.cell? (a.add j) = some u) (h1 : allOne news = true)
    (h63 : n + m ≤ maxLen) (hbytes : (n + m) * i.bytes ≤ 140737488355328) :
    ∃ v' w', (Builtin.append_ #[t, t] ty #[v, .slice (some a) m c]).run P w = .ok v' w' ∧ Own w0 w' (L.set j (row e i.size v' (n + m) (xs ++ news))) ∧ w.heap.size ≤ w'.heap.size := by
  have hsmall : n + m ≤ 9223372036854775807 := by simp only [maxLen] at h63; omega
  obtain ⟨hxl, hshape⟩ := H.row_shape hi
  have hlen : (xs ++ news).length = (n + m) * i.size := by rw [List.length_append, hxl, hl, Nat.add_mul]
  have hgrown : ∀ old, old < n + m → ∀ h, blk w.heap.size (.cells (xs.toArray ++ news.toArray ++ Builtin.zeroCells z.cells (grownCap w (n + m) old e - (n + m))) e (0, 0)) h →
      row e i.size (.slice (some ⟨w.heap.size, 0, none⟩) (n + m) (grownCap w (n + m) old e)) (n + m) (xs ++ news) h := by
    intro old ho h hb
    have hge := grownCap_ge w (n + m) old e
    have hcm : grownCap w (n + m) old e ≤ maxLen := grownCap_le_maxLen w (n + m) old e h63
    refine row_of_blk hlen hge hcm ?_ ?_ h hb
    · simp only [Array.size_append, List.size_toArray, size_zeroCells, hzs, hxl, hl, ← Nat.add_mul]
      congr 1
      omega
    · simp only [Array.toList_append, List.append_assoc]
      rw [← List.append_assoc, ← hlen]
      exact List.take_left
  rcases hshape with ⟨rfl, rfl⟩ | ⟨g, cap, cur, rfl, hnc, hcm, hcs, htake, hg0, hg, H'⟩
  · have hx : xs = [] := List.eq_nil_of_length_eq_zero (by simpa using hxl)
    subst hx
    by_cases hm : m = 0
    · subst hm
      have hn : news = [] := List.eq_nil_of_length_eq_zero (by simpa using hl)
      subst hn
      refine ⟨.slice none 0 0, w, ?_, H.upd hi (fun h hh => hh), Nat.le_refl _⟩
      simp [Builtin.append_, run_underlying ht, sizeOf, typeInfo, hinfo, Builtin.lenOf, Builtin.firstCells, loadCells, loadCellsFrom]
    · have hr := run_append_nil (P := P) w t ty e i z ht hinfo hz a m c news hl hnews (by omega) (by omega) (by have hb := hbytes; simp only [Nat.zero_add] at hb; omega)
      have hgr := hgrown 0 (by omega)
      simp only [Nat.zero_add, List.nil_append, Array.empty_append] at hgr ⊢
      exact ⟨_, _, hr, H.newRow hi hgr, by simp⟩
  · by_cases hroom : n + m ≤ cap
    · have hfit : n * i.size + news.length ≤ cur.size := by rw [hl, hcs, ← Nat.add_mul]; exact Nat.mul_le_mul_right _ hroom
      have hr := run_append_room (P := P) w t ty e i ht hinfo g n cap cur hg a m c news hl hnews (allOne_mem h1) hroom hfit
      refine ⟨_, _, hr, ?_, by simp⟩
      have hlt : j < L.length := (List.getElem?_eq_some_iff.1 hi).1
      have H2 := H'.put (i := j) (β := g) (o := .cells cur e (0, 0)) (by simp [hlt]) (.cells (cur.toList.take (n * i.size) ++ news ++ cur.toList.drop (n * i.size + news.length)).toArray e (0, 0)) (w' := w.setRow g (cur.toList.take (n * i.size) ++ news ++ cur.toList.drop (n * i.size + news.length)).toArray)
        rfl rfl rfl (by simp) (fun k hk _ => setRow_other w g k _ hk) (setRow_heap w g cur _ e _ hg)
      rw [List.set_set] at H2
      have hrow := row_of_blk (e := e) (sz := i.size) (g := g) (n := n + m) (cap := cap) (xs := xs ++ news)
        (cur := (cur.toList.take (n * i.size) ++ news ++ cur.toList.drop (n * i.size + news.length)).toArray) hlen hroom hcm (by
          simp only [List.size_toArray, List.length_append, List.length_take, List.length_drop, Array.length_toList]
          omega) (by
          show List.take _ (cur.toList.take (n * i.size) ++ news ++ cur.toList.drop (n * i.size + news.length)) = _
          rw [htake, ← hlen]
          exact List.take_left)
      have H3 := H2.upd (List.getElem?_set_self hlt) hrow
      rwa [List.set_set] at H3
    · have holds : ∀ k u, xs[k]? = some u → w.cell? ((⟨g, 0, none⟩ : Addr).add k) = some u := by
        intro k u hu
        have hadd : (⟨g, 0, none⟩ : Addr).add k = ⟨g, k, none⟩ := by unfold Addr.add; split <;> simp_all
        rw [hadd, cell_of_row w g k cur e (0, 0) hg]
        rw [← htake, List.getElem?_take] at hu
        split at hu
        · simpa using hu
        · cases hu
      have hr := run_append_grow (P := P) w t ty e i z ht hinfo hz ⟨g, 0, none⟩ n cap xs hxl holds a m c news hl hnews (by omega) (by omega) (growslice_fits (by omega) hbytes)
      exact ⟨_, _, hr, H.newRow hi (hgrown cap (by omega)), by simp⟩

/-- what append asks of an element's type: its size, its bytes -/
def tyApp (P : Program) (e : TypeId) : Option (Nat × Nat) :=
  match P.info? e with
  | some i => match i.zero with
    | some z => bif Nat.beq z.cells.size i.size && Nat.ble 1 i.size then some (i.size, i.bytes) else none
    | none => none
  | none => none

section
variable {P : Program} {N : Sz} {ops : Array Oper} {Q : Exit → Act → World → Prop} {rest : List Oper} {fr : Fr} {w w0 : World} {L : List HP}
  {d : Option Tmp} {ty : TypeId} {pos : String} {af : Array Edge}

theorem JL.append {s x : Operand} {t e : TypeId} {v : Value} {sz bytes n m c β off : Nat} {xs news : List Value} (j : Nat) (H : Own w0 w L) (ht : P.underlying t = some (.slice e)) (ha : tyApp P e = some (sz, bytes))
    (hs : fr.ev s = some v) (hx : fr.ev x = some (.slice (some ⟨β, off, none⟩) m c)) (hi : L[j]? = some (row e sz v n xs)) (hl : news.length = m * sz)
    (hnews : ∀ k u, news[k]? = some u → w.cell? ⟨β, off + k, none⟩ = some u) (h1 : allOne news = true) (hb : (n + m) * bytes ≤ 140737488355328) (h63 : n + m ≤ 9223372036854775807) (hd : Fr.fits N d = true)
    (k : ∀ v' w', Own w0 w' (L.set j (row e sz v' (n + m) (xs ++ news))) → JL P N ops Q rest (fr.put d v') w') :
    JL P N ops Q (⟨d, .call ⟨.builtin .append, #[s, x], #[t, t]⟩, ty, pos, af, none⟩ :: rest) fr w := by
  unfold tyApp at ha
  split at ha
  · rename_i i hinfo
    split at ha
    · rename_i z hz
      cases hc : (Nat.beq z.cells.size i.size && Nat.ble 1 i.size) with
      | false => rw [hc] at ha; cases ha
      | true =>
        rw [hc] at ha
        cases ha
        simp only [Bool.and_eq_true] at hc
        have hzs := Nat.eq_of_beq_eq_true hc.1
        have hsz := Nat.le_of_ble_eq_true hc.2
        obtain ⟨v', w', hr, H', _⟩ := run_append_row (P := P) H t ty i z hi ht hinfo hz hzs hsz ⟨β, off, none⟩ m c news hl (fun k u hk => by
          have := hnews k u hk
          simp only [Addr.add]
          split
          · rename_i h0; subst h0; simpa using this
          · exact this) h1 (by simp only [maxLen]; omega) hb
        refine JL.val rfl hd (fun a Ha => ?_) (k v' w' H')
        simp only [execOp, resolve, invoke, builtin, Sem.run_bind, Sem.run_pure, Result.andThen_ok, List.map_toArray, List.map_cons, List.map_nil, Ha.eval hs, Ha.eval hx, hr]
    · cases ha
  · cases ha

/-- append of what lies in a block of ours -/
theorem JL.append1 {s x : Operand} {t e : TypeId} {v : Value} {sz bytes n m c β : Nat} {xs news : List Value} {e' : TypeId} {fz : Nat × Nat} (j i : Nat) (H : Own w0 w L) (ht : P.underlying t = some (.slice e)) (ha : tyApp P e = some (sz, bytes))
    (hs : fr.ev s = some v) (hx : fr.ev x = some (.slice (some ⟨β, 0, none⟩) m c)) (hi : L[j]? = some (row e sz v n xs)) (hsrc : L[i]? = some (blk β (.cells ⟨news⟩ e' fz))) (hl : news.length = m * sz)
    (h1 : allOne news = true) (hb : (n + m) * bytes ≤ 140737488355328) (h63 : n + m ≤ 9223372036854775807) (hd : Fr.fits N d = true)
    (k : ∀ v' w', Own w0 w' (L.set j (row e sz v' (n + m) (xs ++ news))) → JL P N ops Q rest (fr.put d v') w') :
    JL P N ops Q (⟨d, .call ⟨.builtin .append, #[s, x], #[t, t]⟩, ty, pos, af, none⟩ :: rest) fr w :=
  JL.append j H ht ha hs hx hi hl (fun q u hq => by
    have hb := (H.get hsrc).2
    simp only [World.cell?, hb]
    simpa using hq) h1 hb h63 hd k

theorem setLK_at0 {α : Type} {x : HP} : ∀ {i : Nat} {L : List HP} (k : List HP → Option α), i < L.length → setLK x i L k = k (L.set i x) := by
  intro i
  induction i with
  | zero => intro L k h; cases L with
    | nil => simp at h
    | cons c cs => rfl
  | succ o ih => intro cs k h; cases cs with
    | nil => simp at h
    | cons c cs => simp only [setLK, List.set_cons_succ]; exact ih _ (by simpa using h)
theorem Own.unfront {w0 w : World} {L : List HP} {A C : HP} {i : Nat} (hi : L[i]? = some A) (H : Own w0 w (C :: L.eraseIdx i)) : Own w0 w (L.set i C) := H.entail fun _ hs => starL_unfocus hi hs
theorem List.eraseIdx_append' {α : Type} {X L : List α} {j : Nat} : (X ++ L).eraseIdx (X.length + j) = X ++ L.eraseIdx j := by
  induction X with
  | nil => simp
  | cons x X ih => simp only [List.cons_append, List.length_cons]; rw [show X.length + 1 + j = (X.length + j) + 1 by omega, List.eraseIdx_cons_succ, ih]
/-- append in a drawn region: the one operation that writes -/
theorem JD.append {d : Tmp} {n i : Nat} {fr0 : Nat → Fr} {Z : Fr → World → Prop} {Ls : Nat → List HP} {r : List Oper} {ks : List Kn} {s : Operand} {x : Tmp} {t e : TypeId} {v : Value} {sz bytes n0 m kk : Nat} {xs news : List Value} {e' : TypeId} (j : Nat)
    (ht : P.underlying t = some (.slice e)) (ha : tyApp P e = some (sz, bytes)) (hi : (Ls 0)[j]? = some (row e sz v n0 xs)) (h1L : Ls 1 = (Ls 0).eraseIdx j)
    (hf : findD x ks = some (.nd kk x none (slcHP (.cells ⟨news⟩ e' (0, 0)) m) (slcHP (.cells ⟨news⟩ e' (0, 0)) m))) (hdep : depsOf af kk = true) (hsv : (frDet (depsOf af) ks (fr0 i)).ev s = some v)
    (hl : news.length = m * sz) (h1 : allOne news = true) (hb : (n0 + m) * bytes ≤ 140737488355328) (h63 : n0 + m ≤ 9223372036854775807) (hd : Fr.fits N (some d) = true)
    (k : JD P N ops Q n [i] Ls w0 fr0 Z r (i + 1) (.nd i d none (fun v' => row e sz v' (n0 + m) (xs ++ news)) (fun v' => row e sz v' (n0 + m) (xs ++ news)) :: ks)) (hs0 : noS ks i = true := by rfl) :
    JD P N ops Q n [i] Ls w0 fr0 Z (⟨some d, .call ⟨.builtin .append, #[s, .tmp x], #[t, t]⟩, ty, pos, af, none⟩ :: r) i ks := by
  have g1 := findD_spec hf
  refine ⟨.nd i d none (fun v' => row e sz v' (n0 + m) (xs ++ news)) (fun v' => row e sz v' (n0 + m) (xs ++ news)), some (.nd kk x none (slcHP (.cells ⟨news⟩ e' (0, 0)) m) (slcHP (.cells ⟨news⟩ e' (0, 0)) m)), rfl, rfl, fun s hs => (by cases hs),
    ⟨g1, hdep, .inl rfl, fun k' hk' hs' => absurd hs' (noS_spec hs0 k' hk'), fun p a w X u hp1 hp2 hO Hf hx => ?_⟩, k⟩
  have hp : p = 0 := by
    cases p with
    | zero => rfl
    | succ p => exfalso; simp [phOK] at hp2
  subst hp
  have hnp : nextP [i] i 0 = 1 := by simp [nextP]
  rw [hnp]
  obtain ⟨β, rfl, hO'⟩ := hO.slc (j := 0) rfl
  have hblk := (hO'.get (i := 0) rfl).2
  have hidx : ((blk β (.cells ⟨news⟩ e' (0, 0))) :: (X ++ Ls 0))[X.length + j + 1]? = some (row e sz v n0 xs) := by
    rw [List.getElem?_cons_succ, List.getElem?_append_right (by omega), show X.length + j - X.length = j by omega]; exact hi
  have hO2 : Own w0 w ((blk β (.cells ⟨news⟩ e' (0, 0))) :: (X ++ Ls 0)) := hO'
  unfold tyApp at ha
  split at ha
  · rename_i ti hinfo
    split at ha
    · rename_i z hz
      cases hc : (Nat.beq z.cells.size ti.size && Nat.ble 1 ti.size) with
      | false => rw [hc] at ha; cases ha
      | true =>
        rw [hc] at ha
        cases ha
        simp only [Bool.and_eq_true] at hc
        have hzs := Nat.eq_of_beq_eq_true hc.1
        have hsz := Nat.le_of_ble_eq_true hc.2
        have hnews : ∀ (q : Nat) u, news[q]? = some u → w.cell? ((⟨β, 0, none⟩ : Addr).add q) = some u := by
          intro q u hq
          have hadd : (⟨β, 0, none⟩ : Addr).add q = ⟨β, q, none⟩ := by unfold Addr.add; split <;> simp_all
          rw [hadd]
          simp only [World.cell?, hblk]
          simpa using hq
        obtain ⟨v', w', hr, H', _⟩ := run_append_row (P := P) hO2 t ty ti z hidx ht hinfo hz hzs hsz ⟨β, 0, none⟩ m m news hl hnews h1 (by simp only [maxLen]; omega) hb
        have Hf' := Hf.more hx
        have hs2 := Hf.shadow hx hsv
        refine JL.val (v := v') (w' := w') rfl hd (fun a2 Ha => ?_) (JL.nil fun a2 H2 => ?_) a Hf'
        · have hxx : a2.eval (.tmp x) = .slice (some ⟨β, 0, none⟩) m m := Ha.eval (by simp [Fr.ev, Fr.get])
          simp only [execOp, resolve, invoke, builtin, Sem.run_bind, Sem.run_pure, Result.andThen_ok, List.map_toArray, List.map_cons, List.map_nil, Ha.eval hs2, hxx, hr]
        · refine ⟨H2.defers, v', H2.get d v' (by simp [Fr.put, Fr.get]), ?_⟩
          have hlt : X.length + j + 1 < ((blk β (.cells ⟨news⟩ e' (0, 0))) :: (X ++ Ls 0)).length := (List.getElem?_eq_some_iff.1 hidx).1
          have H3 := H'.front _ (List.getElem?_set_self hlt)
          have e1 : (((blk β (.cells ⟨news⟩ e' (0, 0))) :: (X ++ Ls 0)).set (X.length + j + 1) (row e ti.size v' (n0 + m) (xs ++ news))).eraseIdx (X.length + j + 1) = (blk β (.cells ⟨news⟩ e' (0, 0))) :: (X ++ (Ls 0).eraseIdx j) := by
            rw [List.eraseIdx_set_eq, List.eraseIdx_cons_succ, List.eraseIdx_append']
          rw [e1] at H3
          rw [h1L]
          refine H3.entail fun _ hs => star_mono (fun _ h => h) (fun _ hs => star_mono (fun _ hb => ?_) (fun _ h => h) hs) hs
          simp only [reduceCtorEq, if_false]
          exact ⟨β, rfl, hb⟩
    · cases ha
  · cases ha
/-- a store into a block of ours, in a drawn region -/
theorem JD.storeB {n i : Nat} {es : List Nat} {Ls : Nat → List HP} {fr0 : Nat → Fr} {Z : Fr → World → Prop} {r : List Oper} {ks : List Kn} {x y : Operand} {t : TypeId} {β off m : Nat} {b : Bool} {v : Value} {cs cs' : List Value} {e : TypeId} {L' : List HP} (q j : Nat)
    (hph : ∀ p, p ≤ es.length → phOK ops es i p = true → p = q) (hmem : es.contains i = true)
    (hx : (frDet (depsOf af) ks (fr0 i)).ev x = some (.pointer (some ⟨β, off, none⟩))) (hy : (frDet (depsOf af) ks (fr0 i)).ev y = some v) (hs : tySh P t = some (b, m)) (hi : (Ls q)[j]? = some (blk β (.cells ⟨cs⟩ e (0, 0))))
    (hn : (cellsL v).length = m) (h1 : allOne (cellsL v) = true) (hset : setK off (cellsL v) cs some = some cs') (hL : setLK (blk β (.cells ⟨cs'⟩ e (0, 0))) j (Ls q) some = some L')
    (hL' : Ls (q + 1) = L') (k : JD P N ops Q n es Ls w0 fr0 Z r (i + 1) (.det i none undef :: ks)) (hs0 : noS ks i = true := by rfl) :
    JD P N ops Q n es Ls w0 fr0 Z (⟨none, .store t x y, ty, pos, af, none⟩ :: r) i ks := by
  refine ⟨.det i none undef, none, rfl, rfl, fun s hs => (by cases hs), ⟨noS_spec hs0, fun p a w X hp1 hp2 hO Hf => ?_⟩, k⟩
  have hp := hph p hp1 hp2
  subst hp
  have hnp : nextP es i p = p + 1 := by simp only [nextP, hmem, cond_true]
  rw [hnp]
  have hidx : (X ++ Ls p)[X.length + j]? = some (blk β (.cells ⟨cs⟩ e (0, 0))) := by
    rw [List.getElem?_append_right (by omega), show X.length + j - X.length = j by omega]; exact hi
  have hlt : X.length + j < (X ++ Ls p).length := (List.getElem?_eq_some_iff.1 hidx).1
  refine JL.storeB (X.length + j) hO hx hy hs hidx hn h1 hset (setLK_at0 _ hlt) (fun w' HH => JL.nil fun a2 H2 => ⟨H2.defers, fun t ht => (by cases ht), ?_⟩) a Hf
  have h2 := setLK_eq hL
  simp at h2
  rw [hL', ← h2]
  rw [List.set_append_right _ _ (by omega), show X.length + j - X.length = j by omega] at HH
  exact HH
end
end Go.J

namespace Go.J
set_option linter.unusedSimpArgs false
set_option linter.unusedVariables false
open Go.RowKit Go.Proofs
set_option maxRecDepth 8000

theorem starL_split {L M : List HP} {h : Hp} (H : starL (L ++ M) h) : star (starL L) (starL M) h := by
  induction L generalizing h with
  | nil => exact ⟨fun _ => none, h, fun _ => .inl rfl, by funext k; simp [Hp.add], fun _ => rfl, H⟩
  | cons A L ih => exact star_assoc' (star_mono (fun _ h => h) (fun _ h => ih h) H)
theorem Own.cast {w0 w : World} {L M : List HP} (H : Own w0 w M) (h : L = M) : Own w0 w L := h ▸ H
theorem Own.row_slice {w0 w : World} {L : List HP} (H : Own w0 w L) {j : Nat} {e : TypeId} {sz : Nat} {v : Value} {n : Nat} {xs : List Value} (hi : L[j]? = some (row e sz v n xs)) : ∃ a c, v = .slice a n c := by
  obtain ⟨_, h⟩ := H.row_shape hi
  rcases h with ⟨rfl, rfl⟩ | ⟨g, cap, cur, rfl, _⟩
  · exact ⟨_, _, rfl⟩
  · exact ⟨_, _, rfl⟩
structure Span where
  a : Int
  b : Int
deriving DecidableEq
def Span.cs (s : Span) : List Value := [.int .i64 s.a, .int .i64 s.b]
abbrev Tab := List (List Span)
def spCells (xs : List Span) : List Value := xs.flatMap Span.cs
theorem spCells_len (xs : List Span) : (spCells xs).length = xs.length * 2 := by
  induction xs with
  | nil => rfl
  | cons x xs ih => simp only [spCells, List.flatMap_cons, List.length_append, List.length_cons] at *; rw [ih]; simp [Span.cs]; omega
def spRow (v : Value) (xs : List Span) : HP := row 306 2 v xs.length (spCells xs)
def rowsL (vs : List Value) (T : Tab) : List HP := List.zipWith spRow vs T
def tbl (β : Nat) (T : Tab) : HP := fun h => ∃ vs : List Value, vs.length = 256 ∧ T.length = 256 ∧ star (blk β (.cells ⟨vs⟩ 195 (0, 0))) (starL (rowsL vs T)) h
theorem Own.openT {w0 w : World} {L : List HP} {β : Nat} {T : Tab} (H : Own w0 w (tbl β T :: L)) :
    ∃ vs : List Value, vs.length = 256 ∧ T.length = 256 ∧ Own w0 w (blk β (.cells ⟨vs⟩ 195 (0, 0)) :: (rowsL vs T ++ L)) := by
  obtain ⟨hB, h, hl, x, y, d, rfl, ⟨vs, h1, h2, h3⟩, hs⟩ := H
  refine ⟨vs, h1, h2, hB, _, hl, ?_⟩
  have : star (star (blk β (.cells ⟨vs⟩ 195 (0, 0))) (starL (rowsL vs T))) (starL L) (x.add y) := ⟨x, y, d, rfl, h3, hs⟩
  exact star_mono (fun _ h => h) (fun _ h => starL_append h) (star_assoc this)
theorem Own.closeT {w0 w : World} {L : List HP} {β : Nat} {T : Tab} {vs : List Value} (h1 : vs.length = 256) (h2 : T.length = 256)
    (H : Own w0 w (blk β (.cells ⟨vs⟩ 195 (0, 0)) :: (rowsL vs T ++ L))) : Own w0 w (tbl β T :: L) := by
  refine H.entail fun h hs => ?_
  have hs' : star (blk β (.cells ⟨vs⟩ 195 (0, 0))) (starL (rowsL vs T ++ L)) h := hs
  exact star_mono (fun _ h => ⟨vs, h1, h2, h⟩) (fun _ h => h) (star_assoc' (star_mono (fun _ h => h) (fun _ h => starL_split h) hs'))
theorem rowsL_len {vs : List Value} {T : Tab} (h1 : vs.length = 256) (h2 : T.length = 256) : (rowsL vs T).length = 256 := by simp [rowsL, h1, h2]
theorem rowsL_get {vs : List Value} {T : Tab} {y : Nat} {v : Value} {xs : List Span} (hv : vs[y]? = some v) (hx : T[y]? = some xs) : (rowsL vs T)[y]? = some (spRow v xs) := by
  simp [rowsL, List.getElem?_zipWith, hv, hx]
theorem zipWith_set' {α β γ : Type} (f : α → β → γ) : ∀ (l : List α) (m : List β) (i : Nat) (a : α) (b : β), (List.zipWith f l m).set i (f a b) = List.zipWith f (l.set i a) (m.set i b) := by
  intro l
  induction l with
  | nil => intro m i a b; simp
  | cons x l ih => intro m i a b; cases m with
    | nil => simp
    | cons y m => cases i with
      | zero => simp
      | succ i => simp [ih]
theorem rowsL_set {vs : List Value} {T : Tab} {y : Nat} {v : Value} {xs : List Span} : (rowsL vs T).set y (spRow v xs) = rowsL (vs.set y v) (T.set y xs) := zipWith_set' _ _ _ _ _ _
theorem setK_one' {α : Type} {o : Nat} {v : Value} : ∀ {cs : List Value} (k : List Value → Option α), o < cs.length → setK o [v] cs k = k (cs.set o v) := by
  induction o with
  | zero => intro cs k h; cases cs with
    | nil => simp at h
    | cons c cs => cases cs <;> rfl
  | succ o ih => intro cs k h; cases cs with
    | nil => simp at h
    | cons c cs => simp only [setK, List.set_cons_succ]; exact ih _ (by simpa using h)
theorem setK_one {o : Nat} {v : Value} {cs : List Value} (h : o < cs.length) : setK o [v] cs some = some (cs.set o v) := setK_one' _ h
theorem LdAt.one {w : World} {β off k : Nat} {v : Value} {cs : List Value} {e : TypeId} {fz : Nat × Nat} (hb : w.heap[β]? = some (.cells ⟨cs⟩ e fz)) (hv : cs[off]? = some v) : LdAt w β off (false, k) v := by
  show w.cell? _ = _
  simp [World.cell?, hb, hv]
theorem set_two {α : Type} {A B R : α} {l m : List α} {k : Nat} (h : k < l.length) : (A :: B :: (l ++ m)).set (2 + k) R = A :: B :: (l.set k R ++ m) := by
  rw [show 2 + k = (k + 1) + 1 by omega, List.set_cons_succ, List.set_cons_succ, List.set_append_left _ _ h]
theorem set_one {α : Type} {B R : α} {l m : List α} {k : Nat} (h : k < l.length) : (B :: (l ++ m)).set (1 + k) R = B :: (l.set k R ++ m) := by
  rw [show 1 + k = k + 1 by omega, List.set_cons_succ, List.set_append_left _ _ h]
theorem get_two {α : Type} {A B : α} {l m : List α} {k : Nat} (h : k < l.length) : (A :: B :: (l ++ m))[2 + k]? = l[k]? := by
  rw [show 2 + k = (k + 1) + 1 by omega, List.getElem?_cons_succ, List.getElem?_cons_succ, List.getElem?_append_left h]
theorem get_one {α : Type} {B : α} {l m : List α} {k : Nat} (h : k < l.length) : (B :: (l ++ m))[1 + k]? = l[k]? := by
  rw [show 1 + k = k + 1 by omega, List.getElem?_cons_succ, List.getElem?_append_left h]
/-- the rows, one made longer -/
def Tab.add (T : Tab) (W H y a b : Int) : Tab := if (0 ≤ y ∧ y ≤ H - 1) ∧ max 0 a < min b W then T.set y.toNat (T.getD y.toNat [] ++ [⟨max 0 a, min b W⟩]) else T
theorem Tab.add_len {T : Tab} {W H y a b : Int} : (T.add W H y a b).length = T.length := by unfold Tab.add; split <;> simp
end Go.J
