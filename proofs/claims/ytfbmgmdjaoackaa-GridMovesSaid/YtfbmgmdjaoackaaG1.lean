/-
  Lemmas for the statements of this seat; no statement is proved here. No condition.
-/
import Derived.Test.YtfbmgmdjaoackaaGT
namespace Go.J
open Go.RowKit Go.Proofs
set_option maxRecDepth 8000
set_option linter.unusedSimpArgs false
set_option linter.unusedVariables false
/-! ## data -/
structure Run where
  Y : Int
  From : Int
  To : Int
deriving DecidableEq
def Run.ev (r : Run) : Value := .agg ⟨[.int .i64 r.Y, .int .i64 r.From, .int .i64 r.To]⟩
structure Spot where
  X : Int
  Y : Int
deriving DecidableEq
def Spot.ev (s : Spot) : Value := .agg ⟨[.int .i64 s.X, .int .i64 s.Y]⟩
/-- a slice that reads as a list -/
def Sl {α : Type} (ev : α → Value) (sh : Bool × Nat) (w : World) (v : Value) (xs : List α) : Prop :=
  xs.length ≤ 9223372036854775807 ∧ ∃ a cap, v = .slice a xs.length cap ∧ (xs = [] ∨ ∃ β off, a = some ⟨β, off, none⟩ ∧ β < w.heap.size ∧
    ∀ i x, xs[i]? = some x → LdAt w β (off + i * sh.2) sh (ev x))
abbrev SlR := Sl Run.ev (true, 3)
abbrev SlS := Sl Spot.ev (true, 2)
theorem LdAt.grow {w w' : World} {β off : Nat} {sh : Bool × Nat} {v : Value} (h : LdAt w β off sh v) (hβ : β < w.heap.size) (hB : Below w.heap.size w w') : LdAt w' β off sh v := by
  obtain ⟨b, n⟩ := sh
  cases b with
  | true =>
    obtain ⟨l, h1, h2, h3⟩ := h
    exact ⟨l, h1, h2, fun j u hj => by rw [hB.cell (p := ⟨β, _, none⟩) hβ]; exact h3 j u hj⟩
  | false =>
    have h' : w.cell? ⟨β, off, none⟩ = some v := h
    show w'.cell? _ = _
    rw [hB.cell (p := ⟨β, _, none⟩) hβ]; exact h'
theorem LdAt.part {w : World} {β off n : Nat} {l : List Value} (h : LdAt w β off (true, n) (.agg ⟨l⟩)) (j : Nat) {u : Value} (hj : l[j]? = some u) (k : Nat) : LdAt w β (off + j) (false, k) u := by
  obtain ⟨l', h1, h2, h3⟩ := h
  cases h1
  exact h3 j u hj
theorem Sl.grow {α : Type} {ev : α → Value} {sh : Bool × Nat} {w w' : World} {v : Value} {xs : List α} (h : Sl ev sh w v xs) (hB : Below w.heap.size w w') : Sl ev sh w' v xs := by
  obtain ⟨h1, a, cap, h2, h3⟩ := h
  refine ⟨h1, a, cap, h2, ?_⟩
  rcases h3 with h3 | ⟨β, off, h4, h5, h6⟩
  · exact .inl h3
  · exact .inr ⟨β, off, h4, Nat.lt_of_lt_of_le h5 hB.size, fun i x hx => (h6 i x hx).grow h5 hB⟩
theorem drop_cons {α : Type} {xs : List α} {k : Nat} (h : k < xs.length) : xs.drop k = xs[k] :: xs.drop (k + 1) := by simp
/-! ## grid.within, floor -/
theorem within_c (n low high : Int) (w : World) :
    Pur Try.prog 144 #[.int .i64 n, .int .i64 low, .int .i64 high] w (.bool (decide (low ≤ n ∧ n ≤ high))) := by
  refine pur_J (args := [.int .i64 n, .int .i64 low, .int .i64 high]) Try.func144 rfl Try.ntmps144 rfl ?_
  ((repeat refine JC.seq ?_); refine JC.region ?_)
  refine JL.pure rfl rfl ?_
  refine JL.nil ?_
  ((repeat refine Ex.normal_block ?_); refine Ex.next ?_)
  ((repeat refine JC.seq ?_); refine JC.region ?_)
  refine JL.pure rfl rfl ?_
  refine JL.pure rfl rfl ?_
  refine JL.pure rfl rfl ?_
  refine JL.pure rfl rfl ?_
  refine JL.cases 10 rfl ?_ ?_
  · intro h10
    (try simp only [Bool.not_eq_true', Bool.not_eq_false', decide_eq_true_eq, decide_eq_false_iff_not] at h10)
    refine JL.want rfl rfl ?_
    refine JL.pure rfl rfl ?_
    refine JL.want rfl rfl ?_
    refine JL.pure rfl rfl ?_
    refine JL.want rfl rfl ?_
    refine JL.pure rfl rfl ?_
    refine JL.pure rfl rfl ?_
    refine JL.pure rfl rfl ?_
    refine JL.nil ?_
    ((repeat refine Ex.normal_block ?_); refine Ex.next ?_)
    ((repeat refine JC.seq ?_); refine JC.ret ?_)
    (repeat (first | refine Ex.ret_then ?_ | refine Ex.ret_block ?_))
    refine Ex.ret1 rfl (.tmp rfl) ⟨?_, Below.refl _ _⟩
    simp [h10]
  · intro h10
    (try simp only [Bool.not_eq_true', Bool.not_eq_false', decide_eq_true_eq, decide_eq_false_iff_not] at h10)
    refine JL.pass rfl rfl rfl rfl ?_
    refine JL.pass rfl rfl rfl rfl ?_
    refine JL.pass rfl rfl rfl rfl ?_
    refine JL.pure rfl rfl ?_
    refine JL.pure rfl rfl ?_
    refine JL.nil ?_
    ((repeat refine Ex.normal_block ?_); refine Ex.next ?_)
    ((repeat refine JC.seq ?_); refine JC.ret ?_)
    (repeat (first | refine Ex.ret_then ?_ | refine Ex.ret_block ?_))
    refine Ex.ret1 rfl (.tmp rfl) ⟨?_, Below.refl _ _⟩
    simp; omega
theorem floor_neg {a b : Int} (hb : 1 ≤ b) : -((b - 1 - a) / b) = a / b := by
  have h1 := Int.emod_add_mul_ediv a b
  have h2 := Int.emod_nonneg a (show b ≠ 0 by omega)
  have h3 := Int.emod_lt_of_pos a (show 0 < b by omega)
  have h4 : b - 1 - a = (b - 1 - a % b) + b * (-(a / b)) := by rw [Int.mul_neg]; omega
  rw [h4, Int.add_mul_ediv_left _ _ (by omega), Int.ediv_eq_zero_of_lt (by omega) (by omega)]
  omega
theorem floor_c (a b : Int) (w : World) (hb : 1 ≤ b) (hb2 : b ≤ 4294967296) (ha : -4611686018427387904 ≤ a ∧ a ≤ 4611686018427387904) :
    Pur Try.prog 143 #[.int .i64 a, .int .i64 b] w (.int .i64 (a / b)) := by
  refine pur_J (args := [.int .i64 a, .int .i64 b]) Try.func143 rfl Try.ntmps143 rfl ?_
  ((repeat refine JC.seq ?_); refine JC.region ?_)
  refine JL.pure rfl rfl ?_
  refine JL.nil ?_
  ((repeat refine Ex.normal_block ?_); refine Ex.next ?_)
  ((repeat refine JC.seq ?_); refine JC.region ?_)
  refine JL.pure rfl rfl ?_
  refine JL.pure rfl rfl ?_
  refine JL.nil ?_
  ((repeat refine Ex.normal_block ?_); refine Ex.next ?_)
  ((repeat refine JC.seq ?_); refine JC.cond rfl ?_ ?_)
  · intro h6
    (try simp only [Bool.not_eq_true', Bool.not_eq_false', decide_eq_true_eq, decide_eq_false_iff_not] at h6)
    have g1 : 0 ≤ (b - 1 - a) / b := Int.ediv_nonneg (by omega) (by omega)
    have g2 : (b - 1 - a) / b ≤ b - 1 - a := Int.ediv_le_self _ (by omega)
    ((repeat refine JC.seq ?_); refine JC.region ?_)
    refine JL.pure rfl rfl ?_
    refine JL.arith rfl (by unfold In64; omega) rfl ?_
    refine JL.pure rfl rfl ?_
    refine JL.arith rfl (by unfold In64; omega) rfl ?_
    refine JL.pure rfl rfl ?_
    first
      | refine JL.quoP rfl rfl (by omega) (by omega) (by omega) rfl ?_
      | refine JL.quo rfl rfl (by omega) rfl ?_
    refine JL.neg rfl (by unfold In64; omega) rfl ?_
    refine JL.pure rfl rfl ?_
    refine JL.nil ?_
    ((repeat refine Ex.normal_block ?_); refine Ex.next ?_)
    ((repeat refine JC.seq ?_); refine JC.ret ?_)
    (repeat (first | refine Ex.ret_then ?_ | refine Ex.ret_block ?_))
    refine Ex.ret1 rfl (.tmp rfl) ⟨?_, Below.refl _ _⟩
    rw [floor_neg hb]
  · intro h6
    (try simp only [Bool.not_eq_true', Bool.not_eq_false', decide_eq_true_eq, decide_eq_false_iff_not] at h6)
    
    ((repeat refine JC.seq ?_); refine JC.skip ?_)
    ((repeat refine Ex.normal_block ?_); refine Ex.next ?_)
    ((repeat refine JC.seq ?_); refine JC.region ?_)
    refine JL.pure rfl rfl ?_
    refine JL.pure rfl rfl ?_
    first
      | refine JL.quoP rfl rfl (by omega) (by omega) (by omega) rfl ?_
      | refine JL.quo rfl rfl (by omega) rfl ?_
    refine JL.pure rfl rfl ?_
    refine JL.nil ?_
    ((repeat refine Ex.normal_block ?_); refine Ex.next ?_)
    ((repeat refine JC.seq ?_); refine JC.ret ?_)
    (repeat (first | refine Ex.ret_then ?_ | refine Ex.ret_block ?_))
    refine Ex.ret1 rfl (.tmp rfl) ⟨rfl, Below.refl _ _⟩
def Run.ok (W H : Int) (l x : Run) : Prop :=
  (max 0 l.Y ≤ x.Y ∧ x.Y ≤ H - 1) ∧ (1 ≤ x.To ∧ x.To ≤ W) ∧ (0 ≤ x.From ∧ x.From ≤ x.To - 1) ∧ ¬ (x.Y = l.Y ∧ x.From ≤ l.To)
instance (W H : Int) (l x : Run) : Decidable (Run.ok W H l x) := by unfold Run.ok; infer_instance
def rightFrom (W H : Int) : Run → List Run → Bool
  | _, [] => true
  | l, x :: xs => decide (Run.ok W H l x) && rightFrom W H x xs
/-- are runs a region of a grid -/
def rightB (W H : Int) (rs : List Run) : Bool := rightFrom W H ⟨-1, 0, 0⟩ rs && decide (rs.length ≤ 8192)
theorem rightFrom_no {W H : Int} {l : Run} {rs : List Run} {k : Nat} {b : Bool} (hk : k < rs.length) (hinv : b = rightFrom W H l (rs.drop k)) (hno : ¬ Run.ok W H l rs[k]) : b = false := by
  rw [hinv, drop_cons hk]; simp [rightFrom, hno]
theorem rightFrom_yes {W H : Int} {l : Run} {rs : List Run} {k : Nat} {b : Bool} (hk : k < rs.length) (hinv : b = rightFrom W H l (rs.drop k)) (hyes : Run.ok W H l rs[k]) : b = rightFrom W H rs[k] (rs.drop (k + 1)) := by
  rw [hinv, drop_cons hk]; simp [rightFrom, hyes]
theorem right_c (W H0 S : Int) (lv r : Value) (rs : List Run) (w : World) (hr : SlR w r rs) (hH : 1 ≤ H0 ∧ H0 ≤ 256) (hW : W ≤ 256) :
    Pur Try.prog 216 #[.agg #[.int .i64 W, .int .i64 H0, .int .i64 S, lv], r] w (.bool (rightB W H0 rs)) := by
  obtain ⟨hlen, a, cap, rfl, ha⟩ := hr
  refine pur_J (args := [.agg #[.int .i64 W, .int .i64 H0, .int .i64 S, lv], .slice a rs.length cap]) Try.func216 rfl Try.ntmps216 rfl ?_
  have H := Own.start w
  ((repeat refine JC.seq ?_); refine JC.region ?_)
  refine JL.box H rfl rfl rfl ?_
  intro b2 w1 H
  refine JL.pure rfl rfl ?_
  refine JL.nil ?_
  ((repeat refine Ex.normal_block ?_); refine Ex.next ?_)
  ((repeat refine JC.seq ?_); refine JC.region ?_)
  refine JL.build s140 rfl rfl ?_
  refine JL.alloc H z140 rfl ?_
  intro b5 w2 H
  refine JL.storeB 0 H rfl rfl sh140 rfl rfl rfl rfl rfl ?_
  intro w3 H
  refine JL.nil ?_
  ((repeat refine Ex.normal_block ?_); refine Ex.next ?_)
  ((repeat refine JC.seq ?_); refine JC.region ?_)
  refine JL.pure rfl rfl ?_
  refine JL.len rfl Try.underlying50 rfl ?_
  refine JL.pure rfl rfl ?_
  refine JL.nil ?_
  ((repeat refine Ex.normal_block ?_); refine Ex.next ?_)
  ((repeat refine JC.seq ?_); refine JC.block ?_)
  ((repeat refine JC.seq ?_); refine JC.loop (ι := Nat × Run) (fun x => [(1, .slice a rs.length cap), (2, .pointer (some ⟨b2, 0, none⟩)), (5, .pointer (some ⟨b5, 0, none⟩)), (9, .slice a rs.length cap), (10, .int .i64 rs.length), (11, .int .i64 x.1)])
    (fun x wr => x.1 ≤ rs.length ∧ rightFrom W H0 ⟨-1, 0, 0⟩ rs = rightFrom W H0 x.2 (rs.drop x.1) ∧ -1 ≤ x.2.Y ∧ 0 ≤ x.2.To ∧ 0 ≤ x.2.From ∧
        Own w wr [blk b5 (.cells ⟨[.int .i64 x.2.Y, .int .i64 x.2.From, .int .i64 x.2.To]⟩ 140 (0, 0)), blk b2 (.cells ⟨[.int .i64 W, .int .i64 H0, .int .i64 S, lv]⟩ 52 (0, 0))])
    (fun x => rs.length - x.1) (0, ⟨-1, 0, 0⟩) ?_ ?_ ?_)
  · exact ⟨rfl, rfl, rfl, rfl, rfl, rfl, trivial⟩
  · exact ⟨Nat.zero_le _, rfl, by simp, by simp, by simp, H⟩
  · rintro ⟨k, l⟩ wr ⟨hk, hinv, hlY, hlT, hlF, H⟩
    simp only at hk hinv hlY hlT hlF H
    ((repeat refine JC.seq ?_); refine JC.region ?_)
    refine JL.pure rfl rfl ?_
    refine JL.nil ?_
    ((repeat refine Ex.normal_block ?_); refine Ex.next ?_)
    ((repeat refine JC.seq ?_); refine JC.cond rfl ?_ ?_)
    · intro h12
      (try simp only [Bool.not_eq_true', Bool.not_eq_false', decide_eq_true_eq, decide_eq_false_iff_not] at h12)
      have h12 : k < rs.length := by omega
      obtain ⟨β, off, rfl, hβ, hc⟩ := ha.resolve_left (by rintro rfl; simp at h12)
      have hx : rs[k]? = some rs[k] := by simp [h12]
      ((repeat refine JC.seq ?_); refine JC.skip ?_)
      ((repeat refine Ex.normal_block ?_); refine Ex.next ?_)
      ((repeat refine JC.seq ?_); refine JC.block ?_)
      ((repeat refine JC.seq ?_); refine JC.region ?_)
      refine JL.indexS k rfl rfl Try.underlying50 sh140 rfl h12 rfl ?_
      refine JL.load rfl sh140 ((hc k _ hx).grow hβ H.below) rfl ?_
      refine JL.alloc H z140 rfl ?_
      intro b7 w4 H
      refine JL.storeB 0 H rfl rfl sh140 rfl rfl rfl rfl rfl ?_
      intro w5 H
      refine JL.nil ?_
      ((repeat refine Ex.normal_block ?_); refine Ex.next ?_)
      ((repeat refine JC.seq ?_); refine JC.region ?_)
      refine JL.fieldAddr rfl Try.underlying140 rfl sh3 rfl ?_
      refine JL.loadB 0 H rfl sh3 rfl rfl rfl ?_
      refine JL.fieldAddr rfl Try.underlying140 rfl sh3 rfl ?_
      refine JL.loadB 1 H rfl sh3 rfl rfl rfl ?_
      refine JL.pure rfl rfl ?_
      refine JL.fieldAddr rfl Try.underlying52 rfl sh3 rfl ?_
      refine JL.loadB 2 H rfl sh3 rfl rfl rfl ?_
      refine JL.arith rfl (by unfold In64; omega) rfl ?_
      refine JL.callP H fb144 rfl rfl (within_c _ _ _ _) ?_
      intro w6 H _
      refine JL.pure rfl rfl ?_
      refine JL.pure rfl rfl ?_
      refine JL.cases 25 rfl ?_ ?_
      · intro h25
        (try simp only [Bool.not_eq_true', Bool.not_eq_false', decide_eq_true_eq, decide_eq_false_iff_not] at h25)
        refine JL.pass rfl rfl rfl rfl ?_
        refine JL.pass rfl rfl rfl rfl ?_
        refine JL.pass rfl rfl rfl rfl ?_
        refine JL.pass rfl rfl rfl rfl ?_
        refine JL.pass rfl rfl rfl rfl ?_
        refine JL.pass rfl rfl rfl rfl ?_
        refine JL.pure rfl rfl ?_
        refine JL.pure rfl rfl ?_
        refine JL.pass rfl rfl rfl rfl ?_
        refine JL.pass rfl rfl rfl rfl ?_
        refine JL.pass rfl rfl rfl rfl ?_
        refine JL.pass rfl rfl rfl rfl ?_
        refine JL.pass rfl rfl rfl rfl ?_
        refine JL.pass rfl rfl rfl rfl ?_
        refine JL.pass rfl rfl rfl rfl ?_
        refine JL.pure rfl rfl ?_
        refine JL.pure rfl rfl ?_
        refine JL.pass rfl rfl rfl rfl ?_
        refine JL.pass rfl rfl rfl rfl ?_
        refine JL.pass rfl rfl rfl rfl ?_
        refine JL.pass rfl rfl rfl rfl ?_
        refine JL.pass rfl rfl rfl rfl ?_
        refine JL.pass rfl rfl rfl rfl ?_
        refine JL.passU rfl rfl rfl ?_
        refine JL.passU rfl rfl rfl ?_
        refine JL.passU rfl rfl rfl ?_
        refine JL.passU rfl rfl rfl ?_
        refine JL.passU rfl rfl rfl ?_
        refine JL.pass rfl rfl rfl rfl ?_
        refine JL.pure rfl rfl ?_
        refine JL.nil ?_
        ((repeat refine Ex.normal_block ?_); refine Ex.next ?_)
        ((repeat refine JC.seq ?_); refine JC.cond rfl (fun _ => ?_) (fun h => by cases h))
        ((repeat refine JC.seq ?_); refine JC.region ?_)
        refine JL.pure rfl rfl ?_
        refine JL.nil ?_
        ((repeat refine Ex.normal_block ?_); refine Ex.next ?_)
        ((repeat refine JC.seq ?_); refine JC.ret ?_)
        (repeat (first | refine Ex.ret_then ?_ | refine Ex.ret_block ?_))
        refine Ex.ret1 rfl (.tmp rfl) ?_
        refine ⟨?_, H.below⟩
        unfold rightB
        rw [rightFrom_no h12 hinv (by unfold Run.ok; omega)]; rfl
      · intro h25
        (try simp only [Bool.not_eq_true', Bool.not_eq_false', decide_eq_true_eq, decide_eq_false_iff_not] at h25)
        refine JL.want rfl rfl ?_
        refine JL.fieldAddr rfl Try.underlying140 rfl sh3 rfl ?_
        refine JL.want rfl rfl ?_
        refine JL.loadB 0 H rfl sh3 rfl rfl rfl ?_
        refine JL.want rfl rfl ?_
        refine JL.fieldAddr rfl Try.underlying52 rfl sh3 rfl ?_
        refine JL.want rfl rfl ?_
        refine JL.loadB 2 H rfl sh3 rfl rfl rfl ?_
        refine JL.want rfl rfl ?_
        refine JL.callP H fb144 rfl rfl (within_c _ _ _ _) ?_
        intro w7 H _
        refine JL.want rfl rfl ?_
        refine JL.pure rfl rfl ?_
        refine JL.pure rfl rfl ?_
        refine JL.pure rfl rfl ?_
        refine JL.cases 33 rfl ?_ ?_
        · intro h33
          (try simp only [Bool.not_eq_true', Bool.not_eq_false', decide_eq_true_eq, decide_eq_false_iff_not] at h33)
          refine JL.pass rfl rfl rfl rfl ?_
          refine JL.pass rfl rfl rfl rfl ?_
          refine JL.pass rfl rfl rfl rfl ?_
          refine JL.pass rfl rfl rfl rfl ?_
          refine JL.pass rfl rfl rfl rfl ?_
          refine JL.pass rfl rfl rfl rfl ?_
          refine JL.pass rfl rfl rfl rfl ?_
          refine JL.pure rfl rfl ?_
          refine JL.pure rfl rfl ?_
          refine JL.pass rfl rfl rfl rfl ?_
          refine JL.pass rfl rfl rfl rfl ?_
          refine JL.pass rfl rfl rfl rfl ?_
          refine JL.pass rfl rfl rfl rfl ?_
          refine JL.pass rfl rfl rfl rfl ?_
          refine JL.pass rfl rfl rfl rfl ?_
          refine JL.passU rfl rfl rfl ?_
          refine JL.passU rfl rfl rfl ?_
          refine JL.passU rfl rfl rfl ?_
          refine JL.passU rfl rfl rfl ?_
          refine JL.passU rfl rfl rfl ?_
          refine JL.pass rfl rfl rfl rfl ?_
          refine JL.pure rfl rfl ?_
          refine JL.nil ?_
          ((repeat refine Ex.normal_block ?_); refine Ex.next ?_)
          ((repeat refine JC.seq ?_); refine JC.cond rfl (fun _ => ?_) (fun h => by cases h))
          ((repeat refine JC.seq ?_); refine JC.region ?_)
          refine JL.pure rfl rfl ?_
          refine JL.nil ?_
          ((repeat refine Ex.normal_block ?_); refine Ex.next ?_)
          ((repeat refine JC.seq ?_); refine JC.ret ?_)
          (repeat (first | refine Ex.ret_then ?_ | refine Ex.ret_block ?_))
          refine Ex.ret1 rfl (.tmp rfl) ?_
          refine ⟨?_, H.below⟩
          unfold rightB
          rw [rightFrom_no h12 hinv (by unfold Run.ok; omega)]; rfl
        · intro h33
          (try simp only [Bool.not_eq_true', Bool.not_eq_false', decide_eq_true_eq, decide_eq_false_iff_not] at h33)
          refine JL.want rfl rfl ?_
          refine JL.fieldAddr rfl Try.underlying140 rfl sh3 rfl ?_
          refine JL.want rfl rfl ?_
          refine JL.loadB 0 H rfl sh3 rfl rfl rfl ?_
          refine JL.want rfl rfl ?_
          refine JL.fieldAddr rfl Try.underlying140 rfl sh3 rfl ?_
          refine JL.want rfl rfl ?_
          refine JL.loadB 0 H rfl sh3 rfl rfl rfl ?_
          refine JL.want rfl rfl ?_
          refine JL.arith rfl (by unfold In64; omega) rfl ?_
          refine JL.want rfl rfl ?_
          refine JL.callP H fb144 rfl rfl (within_c _ _ _ _) ?_
          intro w8 H _
          refine JL.want rfl rfl ?_
          refine JL.pure rfl rfl ?_
          refine JL.pure rfl rfl ?_
          refine JL.pure rfl rfl ?_
          refine JL.cases 42 rfl ?_ ?_
          · intro h42
            (try simp only [Bool.not_eq_true', Bool.not_eq_false', decide_eq_true_eq, decide_eq_false_iff_not] at h42)
            refine JL.pass rfl rfl rfl rfl ?_
            refine JL.pass rfl rfl rfl rfl ?_
            refine JL.pass rfl rfl rfl rfl ?_
            refine JL.pass rfl rfl rfl rfl ?_
            refine JL.pass rfl rfl rfl rfl ?_
            refine JL.pass rfl rfl rfl rfl ?_
            refine JL.passU rfl rfl rfl ?_
            refine JL.passU rfl rfl rfl ?_
            refine JL.passU rfl rfl rfl ?_
            refine JL.passU rfl rfl rfl ?_
            refine JL.passU rfl rfl rfl ?_
            refine JL.pass rfl rfl rfl rfl ?_
            refine JL.pure rfl rfl ?_
            refine JL.nil ?_
            ((repeat refine Ex.normal_block ?_); refine Ex.next ?_)
            ((repeat refine JC.seq ?_); refine JC.cond rfl (fun _ => ?_) (fun h => by cases h))
            ((repeat refine JC.seq ?_); refine JC.region ?_)
            refine JL.pure rfl rfl ?_
            refine JL.nil ?_
            ((repeat refine Ex.normal_block ?_); refine Ex.next ?_)
            ((repeat refine JC.seq ?_); refine JC.ret ?_)
            (repeat (first | refine Ex.ret_then ?_ | refine Ex.ret_block ?_))
            refine Ex.ret1 rfl (.tmp rfl) ?_
            refine ⟨?_, H.below⟩
            unfold rightB
            rw [rightFrom_no h12 hinv (by unfold Run.ok; omega)]; rfl
          · intro h42
            (try simp only [Bool.not_eq_true', Bool.not_eq_false', decide_eq_true_eq, decide_eq_false_iff_not] at h42)
            refine JL.want rfl rfl ?_
            refine JL.fieldAddr rfl Try.underlying140 rfl sh3 rfl ?_
            refine JL.want rfl rfl ?_
            refine JL.loadB 0 H rfl sh3 rfl rfl rfl ?_
            refine JL.want rfl rfl ?_
            refine JL.fieldAddr rfl Try.underlying140 rfl sh3 rfl ?_
            refine JL.want rfl rfl ?_
            refine JL.loadB 1 H rfl sh3 rfl rfl rfl ?_
            refine JL.want rfl rfl ?_
            refine JL.pure rfl rfl ?_
            refine JL.want rfl rfl ?_
            refine JL.pure rfl rfl ?_
            refine JL.cases 48 rfl ?_ ?_
            · intro h48
              (try simp only [Bool.not_eq_true', Bool.not_eq_false', decide_eq_true_eq, decide_eq_false_iff_not] at h48)
              refine JL.want rfl rfl ?_
              refine JL.fieldAddr rfl Try.underlying140 rfl sh3 rfl ?_
              refine JL.want rfl rfl ?_
              refine JL.loadB 0 H rfl sh3 rfl rfl rfl ?_
              refine JL.want rfl rfl ?_
              refine JL.fieldAddr rfl Try.underlying140 rfl sh3 rfl ?_
              refine JL.want rfl rfl ?_
              refine JL.loadB 1 H rfl sh3 rfl rfl rfl ?_
              refine JL.want rfl rfl ?_
              refine JL.pure rfl rfl ?_
              refine JL.want rfl rfl ?_
              refine JL.pure rfl rfl ?_
              refine JL.pure rfl rfl ?_
              refine JL.nil ?_
              ((repeat refine Ex.normal_block ?_); refine Ex.next ?_)
              ((repeat refine JC.seq ?_); refine JC.cond rfl ?_ ?_)
              · intro h55
                (try simp only [Bool.not_eq_true', Bool.not_eq_false', decide_eq_true_eq, decide_eq_false_iff_not] at h55)
                ((repeat refine JC.seq ?_); refine JC.region ?_)
                refine JL.pure rfl rfl ?_
                refine JL.nil ?_
                ((repeat refine Ex.normal_block ?_); refine Ex.next ?_)
                ((repeat refine JC.seq ?_); refine JC.ret ?_)
                (repeat (first | refine Ex.ret_then ?_ | refine Ex.ret_block ?_))
                refine Ex.ret1 rfl (.tmp rfl) ?_
                refine ⟨?_, H.below⟩
                unfold rightB
                rw [rightFrom_no h12 hinv (by unfold Run.ok; omega)]; rfl
              · intro h55
                (try simp only [Bool.not_eq_true', Bool.not_eq_false', decide_eq_true_eq, decide_eq_false_iff_not] at h55)
                ((repeat refine JC.seq ?_); refine JC.skip ?_)
                ((repeat refine Ex.normal_block ?_); refine Ex.next ?_)
                ((repeat refine JC.seq ?_); refine JC.region ?_)
                refine JL.loadB 0 H rfl sh140 rfl rfl rfl ?_
                refine JL.storeB 1 H rfl rfl sh140 rfl rfl rfl rfl rfl ?_
                intro w9 H
                refine JL.nil ?_
                ((repeat refine Ex.normal_block ?_); refine Ex.next ?_)
                ((repeat refine JC.seq ?_); refine JC.region ?_)
                refine JL.arith rfl (by unfold In64; omega) rfl ?_
                refine JL.pure rfl rfl ?_
                refine JL.nil ?_
                (repeat refine Ex.normal_block ?_)
                have hok : Run.ok W H0 l rs[k] := by unfold Run.ok; simp at *; omega
                refine Ex.again (k + 1, rs[k]) ⟨rfl, rfl, rfl, rfl, rfl, rfl, trivial⟩ ⟨h12, rightFrom_yes h12 hinv hok, ?_, ?_, ?_, H.drop 0⟩ (by simp; omega) <;> unfold Run.ok at hok <;> simp <;> omega
            · intro h48
              (try simp only [Bool.not_eq_true', Bool.not_eq_false', decide_eq_true_eq, decide_eq_false_iff_not] at h48)
              refine JL.pass rfl rfl rfl rfl ?_
              refine JL.pass rfl rfl rfl rfl ?_
              refine JL.pass rfl rfl rfl rfl ?_
              refine JL.pass rfl rfl rfl rfl ?_
              refine JL.pass rfl rfl rfl rfl ?_
              refine JL.want rfl rfl ?_
              refine JL.pure rfl rfl ?_
              refine JL.pure rfl rfl ?_
              refine JL.nil ?_
              ((repeat refine Ex.normal_block ?_); refine Ex.next ?_)
              ((repeat refine JC.seq ?_); refine JC.cond rfl (fun h => by cases h) (fun _ => ?_))
              ((repeat refine JC.seq ?_); refine JC.skip ?_)
              ((repeat refine Ex.normal_block ?_); refine Ex.next ?_)
              ((repeat refine JC.seq ?_); refine JC.region ?_)
              refine JL.loadB 0 H rfl sh140 rfl rfl rfl ?_
              refine JL.storeB 1 H rfl rfl sh140 rfl rfl rfl rfl rfl ?_
              intro w10 H
              refine JL.nil ?_
              ((repeat refine Ex.normal_block ?_); refine Ex.next ?_)
              ((repeat refine JC.seq ?_); refine JC.region ?_)
              refine JL.arith rfl (by unfold In64; omega) rfl ?_
              refine JL.pure rfl rfl ?_
              refine JL.nil ?_
              (repeat refine Ex.normal_block ?_)
              have hok : Run.ok W H0 l rs[k] := by unfold Run.ok; simp at *; omega
              refine Ex.again (k + 1, rs[k]) ⟨rfl, rfl, rfl, rfl, rfl, rfl, trivial⟩ ⟨h12, rightFrom_yes h12 hinv hok, ?_, ?_, ?_, H.drop 0⟩ (by simp; omega) <;> unfold Run.ok at hok <;> simp <;> omega
    · intro h12
      (try simp only [Bool.not_eq_true', Bool.not_eq_false', decide_eq_true_eq, decide_eq_false_iff_not] at h12)
      
      ((repeat refine JC.seq ?_); refine JC.exit ?_)
      (repeat (first | refine Ex.exit_then ?_ | refine Ex.exit_miss (by decide) ?_))
      refine Ex.exit_hit ?_
      ((repeat refine Ex.normal_block ?_); refine Ex.next ?_)
      ((repeat refine JC.seq ?_); refine JC.region ?_)
      refine JL.pure rfl rfl ?_
      refine JL.len rfl Try.underlying50 rfl ?_
      refine JL.pure rfl rfl ?_
      refine JL.pure rfl rfl ?_
      refine JL.nil ?_
      ((repeat refine Ex.normal_block ?_); refine Ex.next ?_)
      ((repeat refine JC.seq ?_); refine JC.ret ?_)
      (repeat (first | refine Ex.ret_then ?_ | refine Ex.ret_block ?_))
      refine Ex.ret1 rfl (.tmp rfl) ?_
      refine ⟨?_, H.below⟩
      unfold rightB
      have : k = rs.length := by omega
      subst this
      rw [hinv]; simp [rightFrom]
      omega
end Go.J
