/-
  Lemmas for the statements of this seat; no statement is proved here. No condition.
-/
import Derived.Test.YtfbmgmdjaoackaaG18
namespace Go.J
open Go.RowKit Go.Proofs
set_option maxRecDepth 8000
set_option linter.unusedSimpArgs false
set_option linter.unusedVariables false
theorem half1_c (g : Grid) (lv : Value) (a b : Spot) (c : Cell) (βb βa βg : Nat) (w : World) (h1 : βb < w.heap.size) (h2 : βa < w.heap.size) (h3 : βg < w.heap.size) (hb : LdAt w βb 0 (true, 2) b.ev) (ha : LdAt w βa 0 (true, 2) a.ev)
    (hg : LdAt w βg 0 (true, 4) (g.ev lv)) (hS : 1 ≤ g.S ∧ g.S ≤ 50000) (hao : a.ok = true) (hbo : b.ok = true) (hcx : 0 ≤ c.X ∧ c.X ≤ 256) (hcy : 0 ≤ c.Y ∧ c.Y ≤ 256) :
    Pur Try.prog 167 #[c.ev, .pointer (some ⟨βb, 0, none⟩), .pointer (some ⟨βa, 0, none⟩), .pointer (some ⟨βg, 0, none⟩)] w (.bool (leftI g a b c)) := by
  refine pur_J (args := [c.ev, .pointer (some ⟨βb, 0, none⟩), .pointer (some ⟨βa, 0, none⟩), .pointer (some ⟨βg, 0, none⟩)]) Try.func167 rfl Try.ntmps167 rfl ?_
  have H := Own.start w
  have hab := Spot.ok_b hao
  have hbb := Spot.ok_b hbo
  have m1 := mul_bd (M := 0) hcx.1 hcx.2 (show 0 ≤ g.S by omega) hS.2
  have m2 := mul_bd (M := 0) hcy.1 hcy.2 (show 0 ≤ g.S by omega) hS.2
  ((repeat refine JC.seq ?_); refine JC.region ?_)
  refine JL.box H rfl rfl rfl ?_
  intro b4 w1 H
  refine JL.pure rfl rfl ?_
  refine JL.nil ?_
  ((repeat refine Ex.normal_block ?_); refine Ex.next ?_)
  ((repeat refine JC.seq ?_); refine JC.draw 12 H mixed (by kernel_rfl) rfl ?_)
  refine JD.fieldAddr rfl Try.underlying23 rfl sh3 rfl ?_
  refine JD.load rfl sh3 (fun w hw => (hb.part 0 rfl 1).grow h1 hw.below) rfl ?_
  refine JD.fieldAddr rfl Try.underlying23 rfl sh3 rfl ?_
  refine JD.load rfl sh3 (fun w hw => (ha.part 0 rfl 1).grow h2 hw.below) rfl ?_
  refine JD.arith rfl (by unfold In64; omega) rfl ?_
  refine JD.fieldAddr rfl Try.underlying23 rfl sh3 rfl ?_
  refine JD.load rfl sh3 (fun w hw => (hb.part 1 rfl 1).grow h1 hw.below) rfl ?_
  refine JD.fieldAddr rfl Try.underlying23 rfl sh3 rfl ?_
  refine JD.load rfl sh3 (fun w hw => (ha.part 1 rfl 1).grow h2 hw.below) rfl ?_
  refine JD.arith rfl (by unfold In64; omega) rfl ?_
  refine JD.pure rfl rfl ?_
  refine JD.pure rfl rfl ?_
  refine JD.nil ?_
  intro w2 H
  show JL _ _ _ _ _ _ _
  refine JL.nil ?_
  ((repeat refine Ex.normal_block ?_); refine Ex.next ?_)
  ((repeat refine JC.seq ?_); refine JC.region ?_)
  refine JL.fieldAddr rfl Try.underlying62 rfl sh3 rfl ?_
  refine JL.loadB 0 H rfl sh3 rfl rfl rfl ?_
  refine JL.fieldAddr rfl Try.underlying52 rfl sh3 rfl ?_
  refine JL.load rfl sh3 ((hg.part 2 rfl 1).grow h3 H.below) rfl ?_
  refine JL.arith rfl (by unfold In64; omega) rfl ?_
  refine JL.fieldAddr rfl Try.underlying62 rfl sh3 rfl ?_
  refine JL.loadB 0 H rfl sh3 rfl rfl rfl ?_
  refine JL.fieldAddr rfl Try.underlying52 rfl sh3 rfl ?_
  refine JL.load rfl sh3 ((hg.part 2 rfl 1).grow h3 H.below) rfl ?_
  refine JL.arith rfl (by unfold In64; omega) rfl ?_
  refine JL.build s23 rfl rfl ?_
  refine JL.alloc H z23 rfl ?_
  intro b8 w3 H
  refine JL.storeB 0 H rfl rfl sh23 rfl rfl rfl rfl rfl ?_
  intro w4 H
  refine JL.nil ?_
  ((repeat refine Ex.normal_block ?_); refine Ex.next ?_)
  ((repeat refine JC.seq ?_); refine JC.region ?_)
  refine JL.pure rfl rfl ?_
  refine JL.pure rfl rfl ?_
  refine JL.nil ?_
  ((repeat refine Ex.normal_block ?_); refine Ex.next ?_)
  ((repeat refine JC.seq ?_); refine JC.cond rfl ?_ ?_)
  · intro h31
    (try simp only [Bool.not_eq_true', Bool.not_eq_false', decide_eq_true_eq, decide_eq_false_iff_not] at h31)
    ((repeat refine JC.seq ?_); refine JC.region ?_)
    refine JL.fieldAddr rfl Try.underlying23 rfl sh3 rfl ?_
    refine JL.loadB 0 H rfl sh3 rfl rfl rfl ?_
    refine JL.fieldAddr rfl Try.underlying52 rfl sh3 rfl ?_
    refine JL.load rfl sh3 ((hg.part 2 rfl 1).grow h3 H.below) rfl ?_
    refine JL.arith rfl (by unfold In64; omega) rfl ?_
    refine JL.arith rfl (by unfold In64; omega) rfl ?_
    refine JL.fieldAddr rfl Try.underlying23 rfl sh3 rfl ?_
    refine JL.storeB 0 H rfl rfl sh3 rfl rfl rfl rfl rfl ?_
    intro w5 H
    refine JL.nil ?_
    ((repeat refine Ex.normal_block ?_); refine Ex.next ?_)
    ((repeat refine JC.seq ?_); refine JC.region ?_)
    refine JL.pure rfl rfl ?_
    refine JL.pure rfl rfl ?_
    refine JL.nil ?_
    ((repeat refine Ex.normal_block ?_); refine Ex.next ?_)
    ((repeat refine JC.seq ?_); refine JC.cond rfl ?_ ?_)
    · intro h40
      (try simp only [Bool.not_eq_true', Bool.not_eq_false', decide_eq_true_eq, decide_eq_false_iff_not] at h40)
      ((repeat refine JC.seq ?_); refine JC.region ?_)
      refine JL.fieldAddr rfl Try.underlying23 rfl sh3 rfl ?_
      refine JL.loadB 0 H rfl sh3 rfl rfl rfl ?_
      refine JL.fieldAddr rfl Try.underlying52 rfl sh3 rfl ?_
      refine JL.load rfl sh3 ((hg.part 2 rfl 1).grow h3 H.below) rfl ?_
      refine JL.arith rfl (by unfold In64; omega) rfl ?_
      refine JL.arith rfl (by unfold In64; omega) rfl ?_
      refine JL.fieldAddr rfl Try.underlying23 rfl sh3 rfl ?_
      refine JL.storeB 0 H rfl rfl sh3 rfl rfl rfl rfl rfl ?_
      intro w6 H
      refine JL.nil ?_
      ((repeat refine Ex.normal_block ?_); refine Ex.next ?_)
      ((repeat refine JC.seq ?_); refine JC.region ?_)
      refine JL.pure rfl rfl ?_
      refine JL.fieldAddr rfl Try.underlying23 rfl sh3 rfl ?_
      refine JL.loadB 0 H rfl sh3 rfl rfl rfl ?_
      refine JL.fieldAddr rfl Try.underlying23 rfl sh3 rfl ?_
      refine JL.load rfl sh3 ((ha.part 1 rfl 1).grow h2 H.below) rfl ?_
      refine JL.arith rfl (by unfold In64; omega) rfl ?_
      refine JL.pure rfl rfl ?_
      refine JL.pure rfl rfl ?_
      refine JL.fieldAddr rfl Try.underlying23 rfl sh3 rfl ?_
      refine JL.loadB 0 H rfl sh3 rfl rfl rfl ?_
      refine JL.fieldAddr rfl Try.underlying23 rfl sh3 rfl ?_
      refine JL.load rfl sh3 ((ha.part 0 rfl 1).grow h2 H.below) rfl ?_
      refine JL.arith rfl (by unfold In64; omega) rfl ?_
      refine JL.pure rfl rfl ?_
      refine JL.pure rfl rfl ?_
      refine JL.pure rfl rfl ?_
      refine JL.pure rfl rfl ?_
      refine JL.nil ?_
      ((repeat refine Ex.normal_block ?_); refine Ex.next ?_)
      ((repeat refine JC.seq ?_); refine JC.ret ?_)
      (repeat (first | refine Ex.ret_then ?_ | refine Ex.ret_block ?_))
      refine Ex.ret1 rfl (.tmp rfl) ⟨?_, H.below⟩
      rw [w64_left (by omega) (by omega) (by omega) (by omega)]
      unfold leftI
      simp only [gt_iff_lt, h31, h40, if_true, if_false]
    · intro h40
      (try simp only [Bool.not_eq_true', Bool.not_eq_false', decide_eq_true_eq, decide_eq_false_iff_not] at h40)
      ((repeat refine JC.seq ?_); refine JC.skip ?_)
      ((repeat refine Ex.normal_block ?_); refine Ex.next ?_)
      ((repeat refine JC.seq ?_); refine JC.region ?_)
      refine JL.pure rfl rfl ?_
      refine JL.fieldAddr rfl Try.underlying23 rfl sh3 rfl ?_
      refine JL.loadB 0 H rfl sh3 rfl rfl rfl ?_
      refine JL.fieldAddr rfl Try.underlying23 rfl sh3 rfl ?_
      refine JL.load rfl sh3 ((ha.part 1 rfl 1).grow h2 H.below) rfl ?_
      refine JL.arith rfl (by unfold In64; omega) rfl ?_
      refine JL.pure rfl rfl ?_
      refine JL.pure rfl rfl ?_
      refine JL.fieldAddr rfl Try.underlying23 rfl sh3 rfl ?_
      refine JL.loadB 0 H rfl sh3 rfl rfl rfl ?_
      refine JL.fieldAddr rfl Try.underlying23 rfl sh3 rfl ?_
      refine JL.load rfl sh3 ((ha.part 0 rfl 1).grow h2 H.below) rfl ?_
      refine JL.arith rfl (by unfold In64; omega) rfl ?_
      refine JL.pure rfl rfl ?_
      refine JL.pure rfl rfl ?_
      refine JL.pure rfl rfl ?_
      refine JL.pure rfl rfl ?_
      refine JL.nil ?_
      ((repeat refine Ex.normal_block ?_); refine Ex.next ?_)
      ((repeat refine JC.seq ?_); refine JC.ret ?_)
      (repeat (first | refine Ex.ret_then ?_ | refine Ex.ret_block ?_))
      refine Ex.ret1 rfl (.tmp rfl) ⟨?_, H.below⟩
      rw [w64_left (by omega) (by omega) (by omega) (by omega)]
      unfold leftI
      simp only [gt_iff_lt, h31, h40, if_true, if_false]
  · intro h31
    (try simp only [Bool.not_eq_true', Bool.not_eq_false', decide_eq_true_eq, decide_eq_false_iff_not] at h31)
    ((repeat refine JC.seq ?_); refine JC.skip ?_)
    ((repeat refine Ex.normal_block ?_); refine Ex.next ?_)
    ((repeat refine JC.seq ?_); refine JC.region ?_)
    refine JL.pure rfl rfl ?_
    refine JL.pure rfl rfl ?_
    refine JL.nil ?_
    ((repeat refine Ex.normal_block ?_); refine Ex.next ?_)
    ((repeat refine JC.seq ?_); refine JC.cond rfl ?_ ?_)
    · intro h40
      (try simp only [Bool.not_eq_true', Bool.not_eq_false', decide_eq_true_eq, decide_eq_false_iff_not] at h40)
      ((repeat refine JC.seq ?_); refine JC.region ?_)
      refine JL.fieldAddr rfl Try.underlying23 rfl sh3 rfl ?_
      refine JL.loadB 0 H rfl sh3 rfl rfl rfl ?_
      refine JL.fieldAddr rfl Try.underlying52 rfl sh3 rfl ?_
      refine JL.load rfl sh3 ((hg.part 2 rfl 1).grow h3 H.below) rfl ?_
      refine JL.arith rfl (by unfold In64; omega) rfl ?_
      refine JL.arith rfl (by unfold In64; omega) rfl ?_
      refine JL.fieldAddr rfl Try.underlying23 rfl sh3 rfl ?_
      refine JL.storeB 0 H rfl rfl sh3 rfl rfl rfl rfl rfl ?_
      intro w7 H
      refine JL.nil ?_
      ((repeat refine Ex.normal_block ?_); refine Ex.next ?_)
      ((repeat refine JC.seq ?_); refine JC.region ?_)
      refine JL.pure rfl rfl ?_
      refine JL.fieldAddr rfl Try.underlying23 rfl sh3 rfl ?_
      refine JL.loadB 0 H rfl sh3 rfl rfl rfl ?_
      refine JL.fieldAddr rfl Try.underlying23 rfl sh3 rfl ?_
      refine JL.load rfl sh3 ((ha.part 1 rfl 1).grow h2 H.below) rfl ?_
      refine JL.arith rfl (by unfold In64; omega) rfl ?_
      refine JL.pure rfl rfl ?_
      refine JL.pure rfl rfl ?_
      refine JL.fieldAddr rfl Try.underlying23 rfl sh3 rfl ?_
      refine JL.loadB 0 H rfl sh3 rfl rfl rfl ?_
      refine JL.fieldAddr rfl Try.underlying23 rfl sh3 rfl ?_
      refine JL.load rfl sh3 ((ha.part 0 rfl 1).grow h2 H.below) rfl ?_
      refine JL.arith rfl (by unfold In64; omega) rfl ?_
      refine JL.pure rfl rfl ?_
      refine JL.pure rfl rfl ?_
      refine JL.pure rfl rfl ?_
      refine JL.pure rfl rfl ?_
      refine JL.nil ?_
      ((repeat refine Ex.normal_block ?_); refine Ex.next ?_)
      ((repeat refine JC.seq ?_); refine JC.ret ?_)
      (repeat (first | refine Ex.ret_then ?_ | refine Ex.ret_block ?_))
      refine Ex.ret1 rfl (.tmp rfl) ⟨?_, H.below⟩
      rw [w64_left (by omega) (by omega) (by omega) (by omega)]
      unfold leftI
      simp only [gt_iff_lt, h31, h40, if_true, if_false]
    · intro h40
      (try simp only [Bool.not_eq_true', Bool.not_eq_false', decide_eq_true_eq, decide_eq_false_iff_not] at h40)
      ((repeat refine JC.seq ?_); refine JC.skip ?_)
      ((repeat refine Ex.normal_block ?_); refine Ex.next ?_)
      ((repeat refine JC.seq ?_); refine JC.region ?_)
      refine JL.pure rfl rfl ?_
      refine JL.fieldAddr rfl Try.underlying23 rfl sh3 rfl ?_
      refine JL.loadB 0 H rfl sh3 rfl rfl rfl ?_
      refine JL.fieldAddr rfl Try.underlying23 rfl sh3 rfl ?_
      refine JL.load rfl sh3 ((ha.part 1 rfl 1).grow h2 H.below) rfl ?_
      refine JL.arith rfl (by unfold In64; omega) rfl ?_
      refine JL.pure rfl rfl ?_
      refine JL.pure rfl rfl ?_
      refine JL.fieldAddr rfl Try.underlying23 rfl sh3 rfl ?_
      refine JL.loadB 0 H rfl sh3 rfl rfl rfl ?_
      refine JL.fieldAddr rfl Try.underlying23 rfl sh3 rfl ?_
      refine JL.load rfl sh3 ((ha.part 0 rfl 1).grow h2 H.below) rfl ?_
      refine JL.arith rfl (by unfold In64; omega) rfl ?_
      refine JL.pure rfl rfl ?_
      refine JL.pure rfl rfl ?_
      refine JL.pure rfl rfl ?_
      refine JL.pure rfl rfl ?_
      refine JL.nil ?_
      ((repeat refine Ex.normal_block ?_); refine Ex.next ?_)
      ((repeat refine JC.seq ?_); refine JC.ret ?_)
      (repeat (first | refine Ex.ret_then ?_ | refine Ex.ret_block ?_))
      refine Ex.ret1 rfl (.tmp rfl) ⟨?_, H.below⟩
      rw [w64_left (by omega) (by omega) (by omega) (by omega)]
      unfold leftI
      simp only [gt_iff_lt, h31, h40, if_true, if_false]
def clHalf (βb βa βg : Nat) : Value := .func (.func 167) #[] ⟨[.pointer (some ⟨βb, 0, none⟩), .pointer (some ⟨βa, 0, none⟩), .pointer (some ⟨βg, 0, none⟩)]⟩
theorem half2_c (g : Grid) (lv : Value) (a b : Spot) (y : Int) (βb βa βg βf : Nat) (w : World) (h1 : βb < w.heap.size) (h2 : βa < w.heap.size) (h3 : βg < w.heap.size) (h4 : βf < w.heap.size) (hb : LdAt w βb 0 (true, 2) b.ev) (ha : LdAt w βa 0 (true, 2) a.ev)
    (hg : LdAt w βg 0 (true, 4) (g.ev lv)) (hf : LdAt w βf 0 (false, 1) (clHalf βb βa βg)) (hW : 1 ≤ g.W ∧ g.W ≤ 256) (hS : 1 ≤ g.S ∧ g.S ≤ 50000) (hao : a.ok = true) (hbo : b.ok = true) (hy : 0 ≤ y ∧ y ≤ 256) :
    Pur Try.prog 168 #[.int .i64 y, .pointer (some ⟨βg, 0, none⟩), .pointer (some ⟨βf, 0, none⟩)] w (.tuple #[.int .i64 (halfRow g a b y).1, .int .i64 (halfRow g a b y).2]) := by
  refine pur_J (args := [.int .i64 y, .pointer (some ⟨βg, 0, none⟩), .pointer (some ⟨βf, 0, none⟩)]) Try.func168 rfl Try.ntmps168 rfl ?_
  have H := Own.start w
  have hc : ∀ w', Below w.heap.size w w' → ∀ x : Int, 0 ≤ x → x ≤ 256 → Pur Try.prog 167 (([] : List Value) ++ [Value.agg ⟨[.int .i64 x, .int .i64 y]⟩] ++ [Value.pointer (some ⟨βb, 0, none⟩), Value.pointer (some ⟨βa, 0, none⟩), Value.pointer (some ⟨βg, 0, none⟩)]).toArray w' (.bool (leftI g a b ⟨x, y⟩)) :=
    fun w' hB x hx0 hx1 => half1_c g lv a b ⟨x, y⟩ βb βa βg w' (Nat.lt_of_lt_of_le h1 hB.size) (Nat.lt_of_lt_of_le h2 hB.size) (Nat.lt_of_lt_of_le h3 hB.size) (hb.grow h1 hB) (ha.grow h2 hB) (hg.grow h3 hB) hS hao hbo ⟨hx0, hx1⟩ hy
  ((repeat refine JC.seq ?_); refine JC.region ?_)
  refine JL.pure rfl rfl ?_
  refine JL.pure rfl rfl ?_
  refine JL.nil ?_
  ((repeat refine Ex.normal_block ?_); refine Ex.next ?_)
  ((repeat refine JC.seq ?_); refine JC.draw 5 H mixed (by kernel_rfl) rfl ?_)
  refine JD.fieldAddr rfl Try.underlying52 rfl sh3 rfl ?_
  refine JD.load rfl sh3 (fun w hw => (hg.part 0 rfl 1).grow h3 hw.below) rfl ?_
  refine JD.arith rfl (by unfold In64; omega) rfl ?_
  refine JD.pure rfl rfl ?_
  refine JD.pure rfl rfl ?_
  refine JD.nil ?_
  intro w1 H
  show JL _ _ _ _ _ _ _
  refine JL.nil ?_
  ((repeat refine Ex.normal_block ?_); refine Ex.next ?_)
  ((repeat refine JC.seq ?_); refine JC.block ?_)
  ((repeat refine JC.seq ?_); refine JC.loop (ι := Nat × Int) (fun x => [(0, .int .i64 y), (1, .pointer (some ⟨βg, 0, none⟩)), (2, .pointer (some ⟨βf, 0, none⟩)), (6, .int .i64 x.2), (7, .int .i64 (g.W - 1))])
    (fun x wr => (0 ≤ x.2 ∧ x.2 ≤ g.W ∧ g.W - x.2 < x.1) ∧ upTo (fun x => leftI g a b ⟨x, y⟩) (g.W - 1) x.1 x.2 = halfFrom g a b y ∧ Own w wr [])
    (fun x => x.1) (g.W.toNat + 1, 0) ?_ ?_ ?_)
  · exact ⟨rfl, rfl, rfl, rfl, rfl, trivial⟩
  · exact ⟨⟨by simp only; omega, by simp only; omega, by simp only; omega⟩, rfl, H⟩
  · rintro ⟨f, fr⟩ wr ⟨⟨hf0, hf1, hff⟩, hu, H⟩
    simp only at hf0 hf1 hff hu H
    obtain ⟨f, rfl⟩ : ∃ f', f = f' + 1 := by
      cases f with
      | zero => exfalso; omega
      | succ f' => exact ⟨f', rfl⟩
    unfold upTo at hu
    show JC _ _ _ _ [(0, .int .i64 y), (1, .pointer (some ⟨βg, 0, none⟩)), (2, .pointer (some ⟨βf, 0, none⟩)), (6, .int .i64 fr), (7, .int .i64 (g.W - 1))] _
    ((repeat refine JC.seq ?_); refine JC.regionTo ([(0, .int .i64 y), (1, .pointer (some ⟨βg, 0, none⟩)), (2, .pointer (some ⟨βf, 0, none⟩)), (6, .int .i64 fr), (7, .int .i64 (g.W - 1)), (21, .bool (decide (fr ≤ g.W - 1) && !leftI g a b ⟨fr, y⟩))]) (fun wr => Own w wr []) ?_ ?_)
    ·
      refine JL.pure rfl rfl ?_
      refine JL.pure rfl rfl ?_
      refine JL.pure rfl rfl ?_
      refine JL.pure rfl rfl ?_
      refine JL.cases 14 rfl ?_ ?_
      · intro h14
        (try simp only [Bool.not_eq_true', Bool.not_eq_false', decide_eq_true_eq, decide_eq_false_iff_not] at h14)
        refine JL.want rfl rfl ?_
        refine JL.load rfl sh249 (hf.grow h4 H.below) rfl ?_
        refine JL.want rfl rfl ?_
        refine JL.pure rfl rfl ?_
        refine JL.want rfl rfl ?_
        refine JL.pure rfl rfl ?_
        refine JL.want rfl rfl ?_
        refine JL.build s62 rfl rfl ?_
        refine JL.want rfl rfl ?_
        refine JL.callvP H rfl fb167 rfl rfl (hc _ H.below fr hf0 (by omega)) ?_
        intro w2 H _
        refine JL.want rfl rfl ?_
        refine JL.pure rfl rfl ?_
        refine JL.pure rfl rfl ?_
        refine JL.nil ?_
        refine Ex.to ⟨rfl, rfl, rfl, rfl, rfl, ?_, trivial⟩ H
        show some (Value.bool _) = some (Value.bool _)
        simp [h14]
      · intro h14
        (try simp only [Bool.not_eq_true', Bool.not_eq_false', decide_eq_true_eq, decide_eq_false_iff_not] at h14)
        refine JL.pass rfl rfl rfl rfl ?_
        refine JL.pass rfl rfl rfl rfl ?_
        refine JL.pass rfl rfl rfl rfl ?_
        refine JL.pass rfl rfl rfl rfl ?_
        refine JL.pass rfl rfl rfl rfl ?_
        refine JL.pass rfl rfl rfl rfl ?_
        refine JL.pure rfl rfl ?_
        refine JL.nil ?_
        refine Ex.to ⟨rfl, rfl, rfl, rfl, rfl, ?_, trivial⟩ H
        show some (Value.bool _) = some (Value.bool _)
        simp [h14]
    · intro wc H
      ((repeat refine Ex.normal_block ?_); refine Ex.next ?_)
      ((repeat refine JC.seq ?_); refine JC.cond rfl ?_ ?_)
      · intro h21
        (try simp only [Bool.not_eq_true', Bool.not_eq_false', decide_eq_true_eq, decide_eq_false_iff_not] at h21)
        have h21 : fr ≤ g.W - 1 ∧ leftI g a b ⟨fr, y⟩ = false := by simpa using h21
        ((repeat refine JC.seq ?_); refine JC.skip ?_)
        ((repeat refine Ex.normal_block ?_); refine Ex.next ?_)
        ((repeat refine JC.seq ?_); refine JC.block ?_)
        ((repeat refine JC.seq ?_); refine JC.region ?_)
        refine JL.pure rfl rfl ?_
        refine JL.arith rfl (by unfold In64; omega) rfl ?_
        refine JL.pure rfl rfl ?_
        refine JL.nil ?_
        (repeat refine Ex.normal_block ?_)
        rw [if_pos h21] at hu
        refine Ex.again (f, fr + 1) ⟨rfl, rfl, rfl, rfl, rfl, trivial⟩ ⟨⟨by simp only; omega, by simp only; omega, by simp only; omega⟩, hu, H⟩ (by simp)
      · intro h21
        (try simp only [Bool.not_eq_true', Bool.not_eq_false', decide_eq_true_eq, decide_eq_false_iff_not] at h21)
        have h21 : ¬ (fr ≤ g.W - 1 ∧ leftI g a b ⟨fr, y⟩ = false) := fun h => by simp [h.1, h.2] at h21
        rw [if_neg h21] at hu
        ((repeat refine JC.seq ?_); refine JC.exit ?_)
        (repeat (first | refine Ex.exit_then ?_ | refine Ex.exit_miss (by decide) ?_))
        refine Ex.exit_hit ?_
        ((repeat refine Ex.normal_block ?_); refine Ex.next ?_)
        ((repeat refine JC.seq ?_); refine JC.block ?_)
        ((repeat refine JC.seq ?_); refine JC.loop (ι := Nat × Int) (fun x => [(0, .int .i64 y), (1, .pointer (some ⟨βg, 0, none⟩)), (2, .pointer (some ⟨βf, 0, none⟩)), (6, .int .i64 fr), (7, .int .i64 x.2)])
          (fun x wr => (fr - 1 ≤ x.2 ∧ x.2 ≤ g.W - 1 ∧ x.2 - fr + 1 < x.1) ∧ downTo (fun x => leftI g a b ⟨x, y⟩) fr x.1 x.2 = (halfRow g a b y).2 ∧ Own w wr [])
          (fun x => x.1) (g.W.toNat + 1, g.W - 1) ?_ ?_ ?_)
        · exact ⟨rfl, rfl, rfl, rfl, rfl, trivial⟩
        · exact ⟨⟨by simp only; omega, by simp only; omega, by simp only; omega⟩, by rw [hu]; rfl, H⟩
        · rintro ⟨f2, to⟩ wr ⟨⟨ht0, ht1, hft⟩, hd, H⟩
          simp only at ht0 ht1 hft hd H
          obtain ⟨f2, rfl⟩ : ∃ f', f2 = f' + 1 := by
            cases f2 with
            | zero => exfalso; omega
            | succ f' => exact ⟨f', rfl⟩
          unfold downTo at hd
          show JC _ _ _ _ [(0, .int .i64 y), (1, .pointer (some ⟨βg, 0, none⟩)), (2, .pointer (some ⟨βf, 0, none⟩)), (6, .int .i64 fr), (7, .int .i64 to)] _
          ((repeat refine JC.seq ?_); refine JC.regionTo ([(0, .int .i64 y), (1, .pointer (some ⟨βg, 0, none⟩)), (2, .pointer (some ⟨βf, 0, none⟩)), (6, .int .i64 fr), (7, .int .i64 to), (34, .bool (decide (fr ≤ to) && !leftI g a b ⟨to, y⟩))]) (fun wr => Own w wr []) ?_ ?_)
          ·
            refine JL.pure rfl rfl ?_
            refine JL.pure rfl rfl ?_
            refine JL.pure rfl rfl ?_
            refine JL.pure rfl rfl ?_
            refine JL.cases 27 rfl ?_ ?_
            · intro h27
              (try simp only [Bool.not_eq_true', Bool.not_eq_false', decide_eq_true_eq, decide_eq_false_iff_not] at h27)
              refine JL.want rfl rfl ?_
              refine JL.load rfl sh249 (hf.grow h4 H.below) rfl ?_
              refine JL.want rfl rfl ?_
              refine JL.pure rfl rfl ?_
              refine JL.want rfl rfl ?_
              refine JL.pure rfl rfl ?_
              refine JL.want rfl rfl ?_
              refine JL.build s62 rfl rfl ?_
              refine JL.want rfl rfl ?_
              refine JL.callvP H rfl fb167 rfl rfl (hc _ H.below to (by omega) (by omega)) ?_
              intro w3 H _
              refine JL.want rfl rfl ?_
              refine JL.pure rfl rfl ?_
              refine JL.pure rfl rfl ?_
              refine JL.nil ?_
              refine Ex.to ⟨rfl, rfl, rfl, rfl, rfl, ?_, trivial⟩ H
              show some (Value.bool _) = some (Value.bool _)
              simp [h27]
            · intro h27
              (try simp only [Bool.not_eq_true', Bool.not_eq_false', decide_eq_true_eq, decide_eq_false_iff_not] at h27)
              refine JL.pass rfl rfl rfl rfl ?_
              refine JL.pass rfl rfl rfl rfl ?_
              refine JL.pass rfl rfl rfl rfl ?_
              refine JL.pass rfl rfl rfl rfl ?_
              refine JL.pass rfl rfl rfl rfl ?_
              refine JL.pass rfl rfl rfl rfl ?_
              refine JL.pure rfl rfl ?_
              refine JL.nil ?_
              refine Ex.to ⟨rfl, rfl, rfl, rfl, rfl, ?_, trivial⟩ H
              show some (Value.bool _) = some (Value.bool _)
              simp [h27]
          · intro wc H
            ((repeat refine Ex.normal_block ?_); refine Ex.next ?_)
            ((repeat refine JC.seq ?_); refine JC.cond rfl ?_ ?_)
            · intro h34
              (try simp only [Bool.not_eq_true', Bool.not_eq_false', decide_eq_true_eq, decide_eq_false_iff_not] at h34)
              have h34 : fr ≤ to ∧ leftI g a b ⟨to, y⟩ = false := by simpa using h34
              ((repeat refine JC.seq ?_); refine JC.skip ?_)
              ((repeat refine Ex.normal_block ?_); refine Ex.next ?_)
              ((repeat refine JC.seq ?_); refine JC.block ?_)
              ((repeat refine JC.seq ?_); refine JC.region ?_)
              refine JL.pure rfl rfl ?_
              refine JL.arith rfl (by unfold In64; omega) rfl ?_
              refine JL.pure rfl rfl ?_
              refine JL.nil ?_
              (repeat refine Ex.normal_block ?_)
              rw [if_pos h34] at hd
              refine Ex.again (f2, to - 1) ⟨rfl, rfl, rfl, rfl, rfl, trivial⟩ ⟨⟨by simp only; omega, by simp only; omega, by simp only; omega⟩, hd, H⟩ (by simp)
            · intro h34
              (try simp only [Bool.not_eq_true', Bool.not_eq_false', decide_eq_true_eq, decide_eq_false_iff_not] at h34)
              have h34 : ¬ (fr ≤ to ∧ leftI g a b ⟨to, y⟩ = false) := fun h => by simp [h.1, h.2] at h34
              rw [if_neg h34] at hd
              ((repeat refine JC.seq ?_); refine JC.exit ?_)
              (repeat (first | refine Ex.exit_then ?_ | refine Ex.exit_miss (by decide) ?_))
              refine Ex.exit_hit ?_
              ((repeat refine Ex.normal_block ?_); refine Ex.next ?_)
              ((repeat refine JC.seq ?_); refine JC.region ?_)
              refine JL.pure rfl rfl ?_
              refine JL.pure rfl rfl ?_
              refine JL.pure rfl rfl ?_
              refine JL.pure rfl rfl ?_
              refine JL.nil ?_
              ((repeat refine Ex.normal_block ?_); refine Ex.next ?_)
              ((repeat refine JC.seq ?_); refine JC.ret ?_)
              (repeat (first | refine Ex.ret_then ?_ | refine Ex.ret_block ?_))
              refine Ex.ret2 rfl (.tmp rfl) (.tmp rfl) ⟨?_, H.below⟩
              rw [← hd, show (halfRow g a b y).1 = fr from hu.symm]
theorem halfRow_bd {g : Grid} {a b : Spot} {y : Int} (hW : 1 ≤ g.W ∧ g.W ≤ 256) : -1000000000000 ≤ (halfRow g a b y).2 ∧ (halfRow g a b y).2 ≤ 1000000000000 := by
  have hu := upTo_ok (fun x => leftI g a b ⟨x, y⟩) (g.W - 1) (g.W.toNat + 1) 0 (by omega)
  have hd := downTo_ok (fun x => leftI g a b ⟨x, y⟩) (halfFrom g a b y) (g.W.toNat + 1) (g.W - 1) (by unfold halfFrom; omega)
  unfold halfRow
  unfold halfFrom at *
  simp only
  omega
theorem half_c (g : Grid) (lv : Value) (a b : Spot) (w : World) (hl : SlR w lv g.land) : Calls Try.prog 78 #[g.ev lv, a.ev, b.ev] w (fun e w' => ResR w w' [] (halfR g a b) e) := by
  refine calls_J (args := [g.ev lv, a.ev, b.ev]) Try.func78 rfl Try.ntmps78 rfl ?_
  have H := Own.start w
  ((repeat refine JC.seq ?_); refine JC.region ?_)
  refine JL.box H rfl rfl rfl ?_
  intro b3 w1 H
  refine JL.box H rfl rfl rfl ?_
  intro b4 w2 H
  refine JL.box H rfl rfl rfl ?_
  intro b5 w3 H
  refine JL.pure rfl rfl ?_
  refine JL.pure rfl rfl ?_
  refine JL.nil ?_
  ((repeat refine Ex.normal_block ?_); refine Ex.next ?_)
  ((repeat refine JC.seq ?_); refine JC.region ?_)
  refine JL.loadB 2 H rfl sh52 rfl rfl rfl ?_
  refine JL.callP H fb141 rfl rfl (checkGrid_c g lv _ (hl.grow H.below)) ?_
  intro w4 H _
  refine JL.pure rfl rfl ?_
  refine JL.pure rfl rfl ?_
  refine JL.cases 12 rfl ?_ ?_
  · intro h12
    (try simp only [Bool.not_eq_true', Bool.not_eq_false', decide_eq_true_eq, decide_eq_false_iff_not] at h12)
    have hok : g.ok = false := by
      cases hc : g.ok with
      | false => rfl
      | true => exfalso; rw [hc] at h12; simp at h12
    refine JL.pass rfl rfl rfl rfl ?_
    refine JL.pass rfl rfl rfl rfl ?_
    refine JL.pass rfl rfl rfl rfl ?_
    refine JL.pass rfl rfl rfl rfl ?_
    refine JL.pass rfl rfl rfl rfl ?_
    refine JL.pure rfl rfl ?_
    refine JL.pure rfl rfl ?_
    refine JL.pass rfl rfl rfl rfl ?_
    refine JL.pass rfl rfl rfl rfl ?_
    refine JL.pass rfl rfl rfl rfl ?_
    refine JL.pure rfl rfl ?_
    refine JL.nil ?_
    ((repeat refine Ex.normal_block ?_); refine Ex.next ?_)
    ((repeat refine JC.seq ?_); refine JC.cond rfl (fun _ => ?_) (fun h => by cases h))
    ((repeat refine JC.seq ?_); refine JC.region ?_)
    refine JL.pure rfl rfl ?_
    refine JL.pure rfl rfl ?_
    refine JL.nil ?_
    ((repeat refine Ex.normal_block ?_); refine Ex.next ?_)
    ((repeat refine JC.seq ?_); refine JC.ret ?_)
    (repeat (first | refine Ex.ret_then ?_ | refine Ex.ret_block ?_))
    refine Ex.ret2 rfl (.tmp rfl) (.tmp rfl) ?_
    unfold halfR ResR; rw [hok]
    exact ⟨_, rfl, (((H.drop 0).drop 0).drop 0).nilRow 140 3⟩
  · intro h12
    (try simp only [Bool.not_eq_true', Bool.not_eq_false', decide_eq_true_eq, decide_eq_false_iff_not] at h12)
    have hok : g.ok = true := by
      cases hc : g.ok with
      | true => rfl
      | false => exfalso; rw [hc] at h12; simp at h12
    obtain ⟨hgW, hgH, hgS, hgl⟩ := Grid.ok_b hok
    refine JL.want rfl rfl ?_
    refine JL.loadB 1 H rfl sh23 rfl rfl rfl ?_
    refine JL.want rfl rfl ?_
    refine JL.loadB 0 H rfl sh23 rfl rfl rfl ?_
    refine JL.want rfl rfl ?_
    refine JL.buildSlice H Try.underlying27 sh23 z23 rfl rfl rfl rfl rfl ?_
    intro b15 w5 H
    refine JL.want rfl rfl ?_
    refine JL.callP H fb142 rfl rfl (near_c _ [a, b] _ (H.blkSl (j := 0) (enc := fun s : Spot => [.int .i64 s.X, .int .i64 s.Y]) rfl [a, b] rfl (fun _ => rfl) (by simp))) ?_
    intro w6 H _
    refine JL.want rfl rfl ?_
    refine JL.pure rfl rfl ?_
    refine JL.pure rfl rfl ?_
    refine JL.pure rfl rfl ?_
    refine JL.cases 19 rfl ?_ ?_
    · intro h19
      (try simp only [Bool.not_eq_true', Bool.not_eq_false', decide_eq_true_eq, decide_eq_false_iff_not] at h19)
      
      refine JL.pass rfl rfl rfl rfl ?_
      refine JL.pass rfl rfl rfl rfl ?_
      refine JL.pass rfl rfl rfl rfl ?_
      refine JL.pure rfl rfl ?_
      refine JL.nil ?_
      ((repeat refine Ex.normal_block ?_); refine Ex.next ?_)
      ((repeat refine JC.seq ?_); refine JC.cond rfl (fun _ => ?_) (fun h => by cases h))
      ((repeat refine JC.seq ?_); refine JC.region ?_)
      refine JL.pure rfl rfl ?_
      refine JL.pure rfl rfl ?_
      refine JL.nil ?_
      ((repeat refine Ex.normal_block ?_); refine Ex.next ?_)
      ((repeat refine JC.seq ?_); refine JC.ret ?_)
      (repeat (first | refine Ex.ret_then ?_ | refine Ex.ret_block ?_))
      refine Ex.ret2 rfl (.tmp rfl) (.tmp rfl) ?_
      have hs : (a.ok && b.ok) = false := by simpa using h19
      unfold halfR ResR; rw [hok, Bool.true_and, hs]
      exact ⟨_, rfl, ((((H.drop 0).drop 0).drop 0).drop 0).nilRow 140 3⟩
    · intro h19
      (try simp only [Bool.not_eq_true', Bool.not_eq_false', decide_eq_true_eq, decide_eq_false_iff_not] at h19)
      have hab : a.ok = true ∧ b.ok = true := by simpa using h19
      refine JL.want rfl rfl ?_
      refine JL.loadB 2 H rfl sh23 rfl rfl rfl ?_
      refine JL.want rfl rfl ?_
      refine JL.loadB 1 H rfl sh23 rfl rfl rfl ?_
      refine JL.want rfl rfl ?_
      refine JL.eqs rfl rfl (eqTwo (by decide) _ _ _ _).1 rfl ?_
      refine JL.pure rfl rfl ?_
      refine JL.nil ?_
      ((repeat refine Ex.normal_block ?_); refine Ex.next ?_)
      ((repeat refine JC.seq ?_); refine JC.cond rfl ?_ ?_)
      · intro h23
        (try simp only [Bool.not_eq_true', Bool.not_eq_false', decide_eq_true_eq, decide_eq_false_iff_not] at h23)
        have hne : a = b := by cases a; cases b; simpa using h23
        ((repeat refine JC.seq ?_); refine JC.region ?_)
        refine JL.pure rfl rfl ?_
        refine JL.pure rfl rfl ?_
        refine JL.nil ?_
        ((repeat refine Ex.normal_block ?_); refine Ex.next ?_)
        ((repeat refine JC.seq ?_); refine JC.ret ?_)
        (repeat (first | refine Ex.ret_then ?_ | refine Ex.ret_block ?_))
        refine Ex.ret2 rfl (.tmp rfl) (.tmp rfl) ?_
        unfold halfR ResR; rw [hok, hab.1, hab.2, decide_eq_false (fun h => h hne)]
        exact ⟨_, rfl, ((((H.drop 0).drop 0).drop 0).drop 0).nilRow 140 3⟩
      · intro h23
        (try simp only [Bool.not_eq_true', Bool.not_eq_false', decide_eq_true_eq, decide_eq_false_iff_not] at h23)
        have hne : a ≠ b := by rintro rfl; simp at h23
        ((repeat refine JC.seq ?_); refine JC.skip ?_)
        ((repeat refine Ex.normal_block ?_); refine Ex.next ?_)
        ((repeat refine JC.seq ?_); refine JC.region ?_)
        refine JL.pure rfl rfl ?_
        refine JL.alloc H z249 rfl ?_
        intro b8 w7 H
        refine JL.storeB 0 H rfl rfl sh249 rfl rfl rfl rfl rfl ?_
        intro w8 H
        refine JL.nil ?_
        ((repeat refine Ex.normal_block ?_); refine Ex.next ?_)
        ((repeat refine JC.seq ?_); refine JC.region ?_)
        refine JL.loadB 4 H rfl sh52 rfl rfl rfl ?_
        refine JL.pure rfl rfl ?_
        have hg1 := H.get (i := 4) rfl
        have hg2 := H.get (i := 3) rfl
        have hg3 := H.get (i := 2) rfl
        have hg4 := H.get (i := 0) rfl
        have l1 := lt_of_block hg1.2
        have l2 := lt_of_block hg2.2
        have l3 := lt_of_block hg3.2
        have l4 := lt_of_block hg4.2
        refine JL.call fb163 rfl rfl (filled_c g lv 168 [.pointer (some ⟨b3, 0, none⟩), .pointer (some ⟨b8, 0, none⟩)] (halfRow g a b) _ hgW hgH fb168 (fun w' hb' y hy0 hy1 => ⟨half2_c g lv a b y b5 b4 b3 b8 w' (Nat.lt_of_lt_of_le l3 hb'.size) (Nat.lt_of_lt_of_le l2 hb'.size) (Nat.lt_of_lt_of_le l1 hb'.size) (Nat.lt_of_lt_of_le l4 hb'.size) ((LdAt.of_block hg3.2 rfl).grow l3 hb') ((LdAt.of_block hg2.2 rfl).grow l2 hb') ((LdAt.of_block hg1.2 rfl).grow l1 hb') ((LdAt.of_block hg4.2 rfl).grow l4 hb') hgW hgS hab.1 hab.2 ⟨hy0, by omega⟩, halfRow_bd hgW⟩)) ?_
        rintro _ w9 ⟨rv, rfl, K⟩
        have H := H.join K
        refine ⟨_, rfl, ?_⟩
        refine JL.pure rfl rfl ?_
        refine JL.pure rfl rfl ?_
        refine JL.pure rfl rfl ?_
        refine JL.pure rfl rfl ?_
        refine JL.nil ?_
        ((repeat refine Ex.normal_block ?_); refine Ex.next ?_)
        ((repeat refine JC.seq ?_); refine JC.ret ?_)
        (repeat (first | refine Ex.ret_then ?_ | refine Ex.ret_block ?_))
        refine Ex.ret2 rfl (.tmp rfl) (.tmp rfl) ?_
        unfold halfR; rw [hok, hab.1, hab.2]
        simp only [Bool.and_self, Bool.true_and, decide_eq_true hne, if_true]
        exact ⟨_, rfl, (((((H.drop 1).drop 1).drop 1).drop 1).drop 1)⟩
end Go.J
