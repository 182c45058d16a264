/-
  Lemmas for the statements of this seat; no statement is proved here. No condition.
-/
import Derived.Test.YtfbmgmdjaoackaaG16
import Derived.Test.YtfbmgmdjaoackaaPTight
namespace Go.J
open Go.RowKit Go.Proofs
set_option maxRecDepth 8000
set_option linter.unusedSimpArgs false
set_option linter.unusedVariables false
theorem nilSl (w : World) : Sl (Prod.fst : Value × List Run → Value) (false, 1) w (.slice none 0 0) [] := ⟨by simp, none, 0, rfl, .inl rfl⟩
theorem mul_bd {a b M : Int} (h1 : 0 ≤ a) (h2 : a ≤ 256) (h3 : 0 ≤ b) (h4 : b ≤ 50000) : 0 ≤ a * b ∧ a * b ≤ 12800000 :=
  ⟨Int.mul_nonneg h1 h3, by have := Int.mul_le_mul h2 h4 h3 (by omega : (0 : Int) ≤ 256); omega⟩
theorem gridTight_w (g : Grid) (lv : Value) (p : Push) (c d : Cell) (w : World) (hl : SlR w lv g.land) (hc : In64 c.X) (hd : In64 d.X) :
    Pur Try.prog 7 #[g.ev lv, p.ev, c.ev, d.ev] w (.bool true) := by
  refine pur_J (args := [g.ev lv, p.ev, c.ev, d.ev]) Try.func7 rfl Try.ntmps7 rfl ?_
  have H := Own.start w
  ((repeat refine JC.seq ?_); refine JC.region ?_)
  refine JL.box H rfl rfl rfl ?_
  intro b4 w1 H
  refine JL.box H rfl rfl rfl ?_
  intro b5 w2 H
  refine JL.box H rfl rfl rfl ?_
  intro b6 w3 H
  refine JL.box H rfl rfl rfl ?_
  intro b7 w4 H
  refine JL.pure rfl rfl ?_
  refine JL.nil ?_
  ((repeat refine Ex.normal_block ?_); refine Ex.next ?_)
  ((repeat refine JC.seq ?_); refine JC.region ?_)
  refine JL.callP H fb40 rfl rfl (alive_c _) ?_
  intro w5 H _
  refine JL.pure rfl rfl ?_
  refine JL.nil ?_
  ((repeat refine Ex.normal_block ?_); refine Ex.next ?_)
  ((repeat refine JC.seq ?_); refine JC.region ?_)
  refine JL.loadB 3 H rfl sh52 rfl rfl rfl ?_
  refine JL.callP H fb41 rfl rfl (great_c g lv _ 4096 [] _ (hl.grow H.below) (nilSl _) (by simp)) ?_
  intro w6 H _
  refine JL.pure rfl rfl ?_
  refine JL.cases 19 rfl ?_ ?_
  · intro h19
    (try simp only [Bool.not_eq_true', Bool.not_eq_false', decide_eq_true_eq, decide_eq_false_iff_not] at h19)
    refine JL.pass rfl rfl rfl rfl ?_
    refine JL.pass rfl rfl rfl rfl ?_
    refine JL.pure rfl rfl ?_
    refine JL.nil ?_
    ((repeat refine Ex.normal_block ?_); refine Ex.next ?_)
    ((repeat refine JC.seq ?_); refine JC.cond rfl (fun _ => ?_) (fun h => by cases h))
    ((repeat refine JC.seq ?_); refine JC.region ?_)
    refine JL.pure rfl rfl ?_
    refine JL.pure rfl rfl ?_
    refine JL.nil ?_
    ((repeat refine Ex.normal_block ?_); refine Ex.next ?_)
    ((repeat refine JC.seq ?_); refine JC.ret ?_)
    (repeat (first | refine Ex.ret_then ?_ | refine Ex.ret_block ?_))
    refine Ex.ret1 rfl (.tmp rfl) ⟨?_, H.below⟩
    have herr := tight_err (g := g) (p := p) (c := c) (d := d) hc hd
    first | rfl | (congr 2; simp at *; omega)
  · intro h19
    (try simp only [Bool.not_eq_true', Bool.not_eq_false', decide_eq_true_eq, decide_eq_false_iff_not] at h19)
    refine JL.want rfl rfl ?_
    refine JL.pure rfl rfl ?_
    refine JL.want rfl rfl ?_
    refine JL.pure rfl rfl ?_
    refine JL.pure rfl rfl ?_
    refine JL.nil ?_
    ((repeat refine Ex.normal_block ?_); refine Ex.next ?_)
    ((repeat refine JC.seq ?_); refine JC.cond rfl (fun h => by cases h) (fun _ => ?_))
    ((repeat refine JC.seq ?_); refine JC.skip ?_)
    ((repeat refine Ex.normal_block ?_); refine Ex.next ?_)
    ((repeat refine JC.seq ?_); refine JC.drawS H mixed ?_)
    intro w7 H
    refine DR.any 0 7 H (by kernel_rfl) ?_
    refine JD.loadB 3 rfl sh52 rfl rfl rfl ?_
    refine JD.fieldAddr rfl Try.underlying62 rfl sh3 rfl ?_
    refine JD.loadB 1 rfl sh3 rfl rfl rfl ?_
    refine JD.fieldAddr rfl Try.underlying62 rfl sh3 rfl ?_
    refine JD.loadB 1 rfl sh3 rfl rfl rfl ?_
    refine JD.callN (fun v => runRow v (oneR c.X c.Y)) fb45 rfl rfl (fun w1 hw => one_c _ _ w1) ?_
    refine JD.loadB 2 rfl sh54 rfl rfl rfl ?_
    refine JD.nil ?_
    intro w8 v30 H
    simp only [Option.isSome_none, Option.isSome_some, cond_false, cond_true] at H
    show DR _ _ _ _ _ _ _
    refine DR.op rfl (by kernel_rfl) ?_
    refine JL.call fb43 rfl rfl (grow_c g lv v30 (oneR c.X c.Y) p _ (hl.grow H.below) (runSl H (j := 0) rfl (by simp [oneR]))) ?_
    rintro _ w9 ⟨gv, rfl, K⟩
    have H := H.join K
    refine ⟨_, rfl, ?_⟩
    refine DR.next ?_
    refine DR.any 8 15 H (by kernel_rfl) ?_
    refine JD.pure rfl rfl ?_
    refine JD.pure rfl rfl ?_
    refine JD.pure rfl rfl ?_
    refine JD.pure rfl rfl ?_
    refine JD.pure rfl rfl ?_
    refine JD.pure rfl rfl ?_
    refine JD.pure rfl rfl ?_
    refine JD.nil ?_
    intro w10 H
    show DR _ _ _ _ _ _ _
    refine DR.done rfl ?_
    ((repeat refine Ex.normal_block ?_); refine Ex.next ?_)
    ((repeat refine JC.seq ?_); refine JC.drawS H mixed ?_)
    intro w11 H
    refine DR.any 0 7 H (by kernel_rfl) ?_
    refine JD.loadB 5 rfl sh52 rfl rfl rfl ?_
    refine JD.fieldAddr rfl Try.underlying62 rfl sh3 rfl ?_
    refine JD.loadB 2 rfl sh3 rfl rfl rfl ?_
    refine JD.fieldAddr rfl Try.underlying62 rfl sh3 rfl ?_
    refine JD.loadB 2 rfl sh3 rfl rfl rfl ?_
    refine JD.callN (fun v => runRow v (oneR d.X d.Y)) fb45 rfl rfl (fun w1 hw => one_c _ _ w1) ?_
    refine JD.loadB 4 rfl sh54 rfl rfl rfl ?_
    refine JD.nil ?_
    intro w12 v42 H
    simp only [Option.isSome_none, Option.isSome_some, cond_false, cond_true] at H
    show DR _ _ _ _ _ _ _
    refine DR.op rfl (by kernel_rfl) ?_
    refine JL.call fb46 rfl rfl (back_c g lv v42 (oneR d.X d.Y) p _ (hl.grow H.below) (runSl H (j := 0) rfl (by simp [oneR]))) ?_
    rintro _ w13 ⟨bv, rfl, K⟩
    have H := H.join K
    refine ⟨_, rfl, ?_⟩
    refine DR.next ?_
    refine DR.any 8 13 H (by kernel_rfl) ?_
    refine JD.pure rfl rfl ?_
    refine JD.pure rfl rfl ?_
    refine JD.pure rfl rfl ?_
    refine JD.pure rfl rfl ?_
    refine JD.pure rfl rfl ?_
    refine JD.nil ?_
    intro w14 H
    show DR _ _ _ _ _ _ _
    refine DR.done rfl ?_
    ((repeat refine Ex.normal_block ?_); refine Ex.next ?_)
    ((repeat refine JC.seq ?_); refine JC.region ?_)
    refine JL.pure rfl rfl ?_
    refine JL.pure rfl rfl ?_
    refine JL.pure rfl rfl ?_
    refine JL.cases 49 rfl ?_ ?_
    · intro h49
      (try simp only [Bool.not_eq_true', Bool.not_eq_false', decide_eq_true_eq, decide_eq_false_iff_not] at h49)
      refine JL.pass rfl rfl rfl rfl ?_
      refine JL.pass rfl rfl rfl rfl ?_
      refine JL.pure rfl rfl ?_
      refine JL.nil ?_
      ((repeat refine Ex.normal_block ?_); refine Ex.next ?_)
      ((repeat refine JC.seq ?_); refine JC.cond rfl (fun _ => ?_) (fun h => by cases h))
      ((repeat refine JC.seq ?_); refine JC.region ?_)
      refine JL.pure rfl rfl ?_
      refine JL.pure rfl rfl ?_
      refine JL.want rfl rfl ?_
      refine JL.pure rfl rfl ?_
      refine JL.want rfl rfl ?_
      refine JL.pure rfl rfl ?_
      refine JL.want rfl rfl ?_
      refine JL.pure rfl rfl ?_
      refine JL.cases 57 rfl ?_ ?_
      · intro h57
        (try simp only [Bool.not_eq_true', Bool.not_eq_false', decide_eq_true_eq, decide_eq_false_iff_not] at h57)
        refine JL.pass rfl rfl rfl rfl ?_
        refine JL.pass rfl rfl rfl rfl ?_
        refine JL.want rfl rfl ?_
        refine JL.pure rfl rfl ?_
        refine JL.pure rfl rfl ?_
        refine JL.pure rfl rfl ?_
        refine JL.nil ?_
        ((repeat refine Ex.normal_block ?_); refine Ex.next ?_)
        ((repeat refine JC.seq ?_); refine JC.ret ?_)
        (repeat (first | refine Ex.ret_then ?_ | refine Ex.ret_block ?_))
        refine Ex.ret1 rfl (.tmp rfl) ⟨?_, H.below⟩
        have herr := tight_err (g := g) (p := p) (c := c) (d := d) hc hd
        first | rfl | (congr 2; simp at *; omega)
      · intro h57
        (try simp only [Bool.not_eq_true', Bool.not_eq_false', decide_eq_true_eq, decide_eq_false_iff_not] at h57)
        refine JL.want rfl rfl ?_
        refine JL.pure rfl rfl ?_
        refine JL.want rfl rfl ?_
        refine JL.pure rfl rfl ?_
        refine JL.want rfl rfl ?_
        refine JL.pure rfl rfl ?_
        refine JL.pure rfl rfl ?_
        refine JL.pure rfl rfl ?_
        refine JL.nil ?_
        ((repeat refine Ex.normal_block ?_); refine Ex.next ?_)
        ((repeat refine JC.seq ?_); refine JC.ret ?_)
        (repeat (first | refine Ex.ret_then ?_ | refine Ex.ret_block ?_))
        refine Ex.ret1 rfl (.tmp rfl) ⟨?_, H.below⟩
        have herr := tight_err (g := g) (p := p) (c := c) (d := d) hc hd
        first | rfl | (congr 2; simp at *; omega)
    · intro h49
      (try simp only [Bool.not_eq_true', Bool.not_eq_false', decide_eq_true_eq, decide_eq_false_iff_not] at h49)
      refine JL.want rfl rfl ?_
      refine JL.pure rfl rfl ?_
      refine JL.want rfl rfl ?_
      refine JL.pure rfl rfl ?_
      refine JL.pure rfl rfl ?_
      refine JL.nil ?_
      ((repeat refine Ex.normal_block ?_); refine Ex.next ?_)
      ((repeat refine JC.seq ?_); refine JC.cond rfl ?_ ?_)
      · intro h52
        (try simp only [Bool.not_eq_true', Bool.not_eq_false', decide_eq_true_eq, decide_eq_false_iff_not] at h52)
        
        ((repeat refine JC.seq ?_); refine JC.region ?_)
        refine JL.pure rfl rfl ?_
        refine JL.pure rfl rfl ?_
        refine JL.want rfl rfl ?_
        refine JL.pure rfl rfl ?_
        refine JL.want rfl rfl ?_
        refine JL.pure rfl rfl ?_
        refine JL.want rfl rfl ?_
        refine JL.pure rfl rfl ?_
        refine JL.cases 57 rfl ?_ ?_
        · intro h57
          (try simp only [Bool.not_eq_true', Bool.not_eq_false', decide_eq_true_eq, decide_eq_false_iff_not] at h57)
          refine JL.pass rfl rfl rfl rfl ?_
          refine JL.pass rfl rfl rfl rfl ?_
          refine JL.want rfl rfl ?_
          refine JL.pure rfl rfl ?_
          refine JL.pure rfl rfl ?_
          refine JL.pure rfl rfl ?_
          refine JL.nil ?_
          ((repeat refine Ex.normal_block ?_); refine Ex.next ?_)
          ((repeat refine JC.seq ?_); refine JC.ret ?_)
          (repeat (first | refine Ex.ret_then ?_ | refine Ex.ret_block ?_))
          refine Ex.ret1 rfl (.tmp rfl) ⟨?_, H.below⟩
          have herr := tight_err (g := g) (p := p) (c := c) (d := d) hc hd
          first | rfl | (congr 2; simp at *; omega)
        · intro h57
          (try simp only [Bool.not_eq_true', Bool.not_eq_false', decide_eq_true_eq, decide_eq_false_iff_not] at h57)
          refine JL.want rfl rfl ?_
          refine JL.pure rfl rfl ?_
          refine JL.want rfl rfl ?_
          refine JL.pure rfl rfl ?_
          refine JL.want rfl rfl ?_
          refine JL.pure rfl rfl ?_
          refine JL.pure rfl rfl ?_
          refine JL.pure rfl rfl ?_
          refine JL.nil ?_
          ((repeat refine Ex.normal_block ?_); refine Ex.next ?_)
          ((repeat refine JC.seq ?_); refine JC.ret ?_)
          (repeat (first | refine Ex.ret_then ?_ | refine Ex.ret_block ?_))
          refine Ex.ret1 rfl (.tmp rfl) ⟨?_, H.below⟩
          have herr := tight_err (g := g) (p := p) (c := c) (d := d) hc hd
          first | rfl | (congr 2; simp at *; omega)
      · intro h52
        (try simp only [Bool.not_eq_true', Bool.not_eq_false', decide_eq_true_eq, decide_eq_false_iff_not] at h52)
        have hge : (growR g (oneR c.X c.Y) p).2.2 = 0 := by omega
        have hbe : (backR g (oneR d.X d.Y) p).2 = 0 := by omega
        obtain ⟨c1, c2, d1, d2, hgok, hpok, hmain1, hmain2⟩ := tight_grow hc hd hge hbe
        obtain ⟨hgW, hgH, hgS, hgl⟩ := Grid.ok_b hgok
        have hpb : (-16777216 ≤ p.Low.X ∧ p.Low.X ≤ p.High.X) ∧ (-16777216 ≤ p.Low.Y ∧ p.Low.Y ≤ p.High.Y) ∧ max p.High.X p.High.Y ≤ 16777216 := by
          have := hpok
          unfold Push.ok at this
          simpa [and_assoc] using this
        have m1 := mul_bd (M := 0) c1.1 (by omega) (show 0 ≤ g.S by omega) hgS.2
        have m2 := mul_bd (M := 0) d1.1 (by omega) (show 0 ≤ g.S by omega) hgS.2
        have m3 := mul_bd (M := 0) c2.1 (by omega) (show 0 ≤ g.S by omega) hgS.2
        have m4 := mul_bd (M := 0) d2.1 (by omega) (show 0 ≤ g.S by omega) hgS.2
        ((repeat refine JC.seq ?_); refine JC.skip ?_)
        ((repeat refine Ex.normal_block ?_); refine Ex.next ?_)
        ((repeat refine JC.seq ?_); refine JC.regionTo ([(9, .bool true), (10, gv), (13, bv), (4, .pointer (some ⟨b4, 0, none⟩)), (6, .pointer (some ⟨b6, 0, none⟩)), (7, .pointer (some ⟨b7, 0, none⟩)), (15, .bool (reachesB g p c d))]) (fun wr => Own w wr [runRow bv (backR g (oneR d.X d.Y) p).1, runRow v42 (oneR d.X d.Y), runRow gv (growR g (oneR c.X c.Y) p).1, runRow v30 (oneR c.X c.Y), blk b7 (.cells ⟨[.int .i64 d.X, .int .i64 d.Y]⟩ 62 (0, 0)), blk b6 (.cells ⟨[.int .i64 c.X, .int .i64 c.Y]⟩ 62 (0, 0)), blk b5 (.cells ⟨[.int .i64 p.Low.X, .int .i64 p.Low.Y, .int .i64 p.High.X, .int .i64 p.High.Y]⟩ 54 (0, 0)), blk b4 (.cells ⟨[.int .i64 g.W, .int .i64 g.H, .int .i64 g.S, lv]⟩ 52 (0, 0))]) ?_ ?_)
        ·
          refine JL.fieldAddr rfl Try.underlying62 rfl sh3 rfl ?_
          refine JL.loadB 5 H rfl sh3 rfl rfl rfl ?_
          refine JL.fieldAddr rfl Try.underlying52 rfl sh3 rfl ?_
          refine JL.loadB 7 H rfl sh3 rfl rfl rfl ?_
          refine JL.arith rfl (by unfold In64; omega) rfl ?_
          refine JL.fieldAddr rfl Try.underlying62 rfl sh3 rfl ?_
          refine JL.loadB 4 H rfl sh3 rfl rfl rfl ?_
          refine JL.fieldAddr rfl Try.underlying52 rfl sh3 rfl ?_
          refine JL.loadB 7 H rfl sh3 rfl rfl rfl ?_
          refine JL.arith rfl (by unfold In64; omega) rfl ?_
          refine JL.fieldAddr rfl Try.underlying52 rfl sh3 rfl ?_
          refine JL.loadB 7 H rfl sh3 rfl rfl rfl ?_
          refine JL.fieldAddr rfl Try.underlying54 rfl sh23 rfl ?_
          refine JL.fieldAddr rfl Try.underlying23 rfl sh3 rfl ?_
          refine JL.loadB 6 H rfl sh3 rfl rfl rfl ?_
          refine JL.fieldAddr rfl Try.underlying54 rfl sh23 rfl ?_
          refine JL.fieldAddr rfl Try.underlying23 rfl sh3 rfl ?_
          refine JL.loadB 6 H rfl sh3 rfl rfl rfl ?_
          refine JL.callP H fb47 rfl rfl (reach_c _ _ _ _ _ _ (by omega) (by omega) (by omega) (by omega) (by omega)) ?_
          intro w15 H _
          refine JL.pure rfl rfl ?_
          refine JL.cases 81 rfl ?_ ?_
          · intro h81
            (try simp only [Bool.not_eq_true', Bool.not_eq_false', decide_eq_true_eq, decide_eq_false_iff_not] at h81)
            refine JL.want rfl rfl ?_
            refine JL.fieldAddr rfl Try.underlying62 rfl sh3 rfl ?_
            refine JL.want rfl rfl ?_
            refine JL.loadB 5 H rfl sh3 rfl rfl rfl ?_
            refine JL.want rfl rfl ?_
            refine JL.fieldAddr rfl Try.underlying52 rfl sh3 rfl ?_
            refine JL.want rfl rfl ?_
            refine JL.loadB 7 H rfl sh3 rfl rfl rfl ?_
            refine JL.want rfl rfl ?_
            refine JL.arith rfl (by unfold In64; omega) rfl ?_
            refine JL.want rfl rfl ?_
            refine JL.fieldAddr rfl Try.underlying62 rfl sh3 rfl ?_
            refine JL.want rfl rfl ?_
            refine JL.loadB 4 H rfl sh3 rfl rfl rfl ?_
            refine JL.want rfl rfl ?_
            refine JL.fieldAddr rfl Try.underlying52 rfl sh3 rfl ?_
            refine JL.want rfl rfl ?_
            refine JL.loadB 7 H rfl sh3 rfl rfl rfl ?_
            refine JL.want rfl rfl ?_
            refine JL.arith rfl (by unfold In64; omega) rfl ?_
            refine JL.want rfl rfl ?_
            refine JL.fieldAddr rfl Try.underlying52 rfl sh3 rfl ?_
            refine JL.want rfl rfl ?_
            refine JL.loadB 7 H rfl sh3 rfl rfl rfl ?_
            refine JL.want rfl rfl ?_
            refine JL.fieldAddr rfl Try.underlying54 rfl sh23 rfl ?_
            refine JL.want rfl rfl ?_
            refine JL.fieldAddr rfl Try.underlying23 rfl sh3 rfl ?_
            refine JL.want rfl rfl ?_
            refine JL.loadB 6 H rfl sh3 rfl rfl rfl ?_
            refine JL.want rfl rfl ?_
            refine JL.fieldAddr rfl Try.underlying54 rfl sh23 rfl ?_
            refine JL.want rfl rfl ?_
            refine JL.fieldAddr rfl Try.underlying23 rfl sh3 rfl ?_
            refine JL.want rfl rfl ?_
            refine JL.loadB 6 H rfl sh3 rfl rfl rfl ?_
            refine JL.want rfl rfl ?_
            refine JL.callP H fb47 rfl rfl (reach_c _ _ _ _ _ _ (by omega) (by omega) (by omega) (by omega) (by omega)) ?_
            intro w16 H _
            refine JL.pure rfl rfl ?_
            refine JL.pure rfl rfl ?_
            refine JL.nil ?_
            refine Ex.to ⟨rfl, rfl, rfl, rfl, rfl, rfl, ?_, trivial⟩ H
            show some (Value.bool _) = some (Value.bool _)
            unfold reachesB
            simp [*]
          · intro h81
            (try simp only [Bool.not_eq_true', Bool.not_eq_false', decide_eq_true_eq, decide_eq_false_iff_not] at h81)
            refine JL.pass rfl rfl rfl rfl ?_
            refine JL.pass rfl rfl rfl rfl ?_
            refine JL.pass rfl rfl rfl rfl ?_
            refine JL.pass rfl rfl rfl rfl ?_
            refine JL.pass rfl rfl rfl rfl ?_
            refine JL.pass rfl rfl rfl rfl ?_
            refine JL.pass rfl rfl rfl rfl ?_
            refine JL.pass rfl rfl rfl rfl ?_
            refine JL.pass rfl rfl rfl rfl ?_
            refine JL.pass rfl rfl rfl rfl ?_
            refine JL.pass rfl rfl rfl rfl ?_
            refine JL.pass rfl rfl rfl rfl ?_
            refine JL.pass rfl rfl rfl rfl ?_
            refine JL.pass rfl rfl rfl rfl ?_
            refine JL.pass rfl rfl rfl rfl ?_
            refine JL.pass rfl rfl rfl rfl ?_
            refine JL.pass rfl rfl rfl rfl ?_
            refine JL.pass rfl rfl rfl rfl ?_
            refine JL.pass rfl rfl rfl rfl ?_
            refine JL.pure rfl rfl ?_
            refine JL.pure rfl rfl ?_
            refine JL.nil ?_
            refine Ex.to ⟨rfl, rfl, rfl, rfl, rfl, rfl, ?_, trivial⟩ H
            show some (Value.bool _) = some (Value.bool _)
            unfold reachesB
            simp [*]
        · intro wc H
          ((repeat refine Ex.normal_block ?_); refine Ex.next ?_)
          ((repeat refine JC.seq ?_); refine JC.region ?_)
          refine JL.pure rfl rfl ?_
          refine JL.pure rfl rfl ?_
          refine JL.want rfl rfl ?_
          refine JL.pure rfl rfl ?_
          refine JL.want rfl rfl ?_
          refine JL.loadB 4 H rfl sh62 rfl rfl rfl ?_
          refine JL.want rfl rfl ?_
          refine JL.callP H fb48 rfl rfl (has_c _ (growR g (oneR c.X c.Y) p).1 d _ (runSl H (j := 2) rfl (by have := growR_len g (oneR c.X c.Y) p; omega))) ?_
          intro w17 H _
          refine JL.want rfl rfl ?_
          refine JL.pure rfl rfl ?_
          refine JL.want rfl rfl ?_
          refine JL.eqs rfl rfl (eqBool 4 Try.underlying4 _ _) rfl ?_
          refine JL.re 108 rfl (v' := .bool true) (by rw [hmain1]; simp) ?_
          refine JL.pure rfl rfl ?_
          refine JL.pure rfl rfl ?_
          refine JL.want rfl rfl ?_
          refine JL.pure rfl rfl ?_
          refine JL.want rfl rfl ?_
          refine JL.loadB 5 H rfl sh62 rfl rfl rfl ?_
          refine JL.want rfl rfl ?_
          refine JL.callP H fb48 rfl rfl (has_c _ (backR g (oneR d.X d.Y) p).1 c _ (runSl H (j := 0) rfl (by have := backR_len g (oneR d.X d.Y) p; omega))) ?_
          intro w18 H _
          refine JL.want rfl rfl ?_
          refine JL.pure rfl rfl ?_
          refine JL.want rfl rfl ?_
          refine JL.eqs rfl rfl (eqBool 4 Try.underlying4 _ _) rfl ?_
          refine JL.re 115 rfl (v' := .bool true) (by rw [hmain2]; simp) ?_
          refine JL.pure rfl rfl ?_
          refine JL.pure rfl rfl ?_
          refine JL.nil ?_
          ((repeat refine Ex.normal_block ?_); refine Ex.next ?_)
          ((repeat refine JC.seq ?_); refine JC.ret ?_)
          (repeat (first | refine Ex.ret_then ?_ | refine Ex.ret_block ?_))
          refine Ex.ret1 rfl (.tmp rfl) ⟨?_, H.below⟩
          have herr := tight_err (g := g) (p := p) (c := c) (d := d) hc hd
          first | rfl | (congr 2; simp at *; omega)
end Go.J
