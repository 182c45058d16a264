/-
  Lemmas for the statements of this seat; no statement is proved here. No condition.
-/
import Derived.Test.YtfbmgmdjaoackaaG19
namespace Go.J
open Go.RowKit Go.Proofs
set_option maxRecDepth 8000
set_option linter.unusedSimpArgs false
set_option linter.unusedVariables false
theorem cellOf_ok {g : Grid} {s : Spot} {c : Cell} (h : cellOfR g s = (c, 0)) : g.ok = true ∧ s.ok = true ∧ inG g c ∧ c = ⟨s.X / g.S, s.Y / g.S⟩ := by
  unfold cellOfR at h
  split at h
  · cases h
  · rename_i h1
    split at h
    · rename_i h2
      have h3 : g.ok = true ∧ s.ok = true := by simpa using h1
      cases h
      refine ⟨h3.1, h3.2, ?_, rfl⟩
      unfold inG; simp only; omega
    · cases h
theorem discR_ok {g : Grid} {s : Spot} {r : Int} (h : (discR g s r).2 = 0) : g.ok = true ∧ s.ok = true ∧ 0 ≤ r ∧ r ≤ 16777216 := by
  unfold discR at h
  split at h
  · rename_i hc
    simp only [Bool.and_eq_true, decide_eq_true_eq] at hc
    exact ⟨hc.1.1, hc.1.2, hc.2⟩
  · cases h
theorem halfR_ok {g : Grid} {a b : Spot} (h : (halfR g a b).2 = 0) : g.ok = true ∧ a.ok = true ∧ b.ok = true ∧ a ≠ b := by
  unfold halfR at h
  split at h
  · rename_i hc
    simp only [Bool.and_eq_true, decide_eq_true_eq] at hc
    exact ⟨hc.1.1.1, hc.1.1.2, hc.1.2, hc.2⟩
  · cases h
theorem discR_len (g : Grid) (s : Spot) (r : Int) : (discR g s r).1.length ≤ 8192 := by
  unfold discR; split
  · exact regRes_len _
  · simp
theorem halfR_len (g : Grid) (a b : Spot) : (halfR g a b).1.length ≤ 8192 := by
  unfold halfR; split
  · exact regRes_len _
  · simp
theorem w64_sq {x y : Int} (hx : -100000000 ≤ x ∧ x ≤ 100000000) (hy : -100000000 ≤ y ∧ y ≤ 100000000) : w64 (w64 (x * x) + w64 (y * y)) = x * x + y * y := by
  have h1 := mul_bd2 hx.1 hx.2 hx.1 hx.2
  have h2 := mul_bd2 hy.1 hy.2 hy.1 hy.2
  rw [w64_id (n := x * x) (by unfold In64; omega), w64_id (n := y * y) (by unfold In64; omega), w64_id (by unfold In64; omega)]
theorem w64_s {x : Int} (hx : -100000000 ≤ x ∧ x ≤ 100000000) : w64 (x * x) = x * x := by
  have h1 := mul_bd2 hx.1 hx.2 hx.1 hx.2
  exact w64_id (by unfold In64; omega)
/-- the differences of a place and a spot, as the walk spells them -/
theorem w64_d {x a : Int} (hx : -16777216 ≤ x ∧ x ≤ 16777216) (ha : -16777216 ≤ a ∧ a ≤ 16777216) : w64 (x - a) = x - a := w64_id (by unfold In64; omega)
theorem w64_aw {c S a : Int} (hm : 0 ≤ c * S ∧ c * S ≤ 12800000) (hS : 1 ≤ S ∧ S ≤ 50000) (ha : -16777216 ≤ a ∧ a ≤ 16777216) :
    max (max 0 (w64 (c * S - a))) (w64 (w64 (w64 (a - c * S) - S) + 1)) = awayI S a c := by
  rw [w64_id (n := c * S - a) (by unfold In64; omega), w64_id (n := a - c * S) (by unfold In64; omega), w64_id (n := a - c * S - S) (by unfold In64; omega), w64_id (n := a - c * S - S + 1) (by unfold In64; omega)]
  rfl
theorem away_bd {c S a : Int} (hm : 0 ≤ c * S ∧ c * S ≤ 12800000) (hS : 1 ≤ S ∧ S ≤ 50000) (ha : -16777216 ≤ a ∧ a ≤ 16777216) : -100000000 ≤ awayI S a c ∧ awayI S a c ≤ 100000000 := by unfold awayI; omega
theorem neqBool (t : TypeId) (ht : Try.prog.underlying t = some .bool) (a b : Bool) : EqAt2 Try.prog .neq t (.bool a) (.bool b) (.bool (a != b)) :=
  ⟨fun x y w => by simp [eqGuard], fun w => by simp [binOp, Op.equal, Op.maxDepth, show (10000 : Nat) = 9999 + 1 from rfl, run_equalIn_bool w 9999 t a b ht, bne]⟩
theorem gridReaches_w (g : Grid) (lv : Value) (a b s : Spot) (radius : Int) (w : World) (hl : SlR w lv g.land) :
    Pur Try.prog 13 #[g.ev lv, a.ev, b.ev, s.ev, .int .i64 radius] w (.bool true) := by
  refine pur_J (args := [g.ev lv, a.ev, b.ev, s.ev, .int .i64 radius]) Try.func13 rfl Try.ntmps13 rfl ?_
  have H := Own.start w
  ((repeat refine JC.seq ?_); refine JC.region ?_)
  refine JL.box H rfl rfl rfl ?_
  intro b5 w1 H
  refine JL.box H rfl rfl rfl ?_
  intro b6 w2 H
  refine JL.box H rfl rfl rfl ?_
  intro b7 w3 H
  refine JL.box H rfl rfl rfl ?_
  intro b8 w4 H
  refine JL.pure rfl rfl ?_
  refine JL.nil ?_
  ((repeat refine Ex.normal_block ?_); refine Ex.next ?_)
  ((repeat refine JC.seq ?_); refine JC.region ?_)
  refine JL.callP H fb40 rfl rfl (alive_c _) ?_
  intro w5 H _
  refine JL.pure rfl rfl ?_
  refine JL.nil ?_
  ((repeat refine Ex.normal_block ?_); refine Ex.next ?_)
  ((repeat refine JC.seq ?_); refine JC.region ?_)
  refine JL.loadB 3 H rfl sh52 rfl rfl rfl ?_
  refine JL.callP H fb41 rfl rfl (great_c g lv _ 4096 [] _ (hl.grow H.below) (nilSl _) (by simp)) ?_
  intro w6 H _
  refine JL.pure rfl rfl ?_
  refine JL.cases 26 rfl ?_ ?_
  · intro h26
    (try simp only [Bool.not_eq_true', Bool.not_eq_false', decide_eq_true_eq, decide_eq_false_iff_not] at h26)
    refine JL.pass rfl rfl rfl rfl ?_
    refine JL.pass rfl rfl rfl rfl ?_
    refine JL.pure rfl rfl ?_
    refine JL.nil ?_
    ((repeat refine Ex.normal_block ?_); refine Ex.next ?_)
    ((repeat refine JC.seq ?_); refine JC.cond rfl (fun _ => ?_) (fun h => by cases h))
    ((repeat refine JC.seq ?_); refine JC.region ?_)
    refine JL.pure rfl rfl ?_
    refine JL.pure rfl rfl ?_
    refine JL.nil ?_
    ((repeat refine Ex.normal_block ?_); refine Ex.next ?_)
    ((repeat refine JC.seq ?_); refine JC.ret ?_)
    (repeat (first | refine Ex.ret_then ?_ | refine Ex.ret_block ?_))
    refine Ex.ret1 rfl (.tmp rfl) ⟨?_, H.below⟩
    rfl
  · intro h26
    (try simp only [Bool.not_eq_true', Bool.not_eq_false', decide_eq_true_eq, decide_eq_false_iff_not] at h26)
    refine JL.want rfl rfl ?_
    refine JL.pure rfl rfl ?_
    refine JL.want rfl rfl ?_
    refine JL.pure rfl rfl ?_
    refine JL.pure rfl rfl ?_
    refine JL.nil ?_
    ((repeat refine Ex.normal_block ?_); refine Ex.next ?_)
    ((repeat refine JC.seq ?_); refine JC.cond rfl (fun h => by cases h) (fun _ => ?_))
    ((repeat refine JC.seq ?_); refine JC.skip ?_)
    ((repeat refine Ex.normal_block ?_); refine Ex.next ?_)
    ((repeat refine JC.seq ?_); refine JC.region ?_)
    refine JL.loadB 3 H rfl sh52 rfl rfl rfl ?_
    refine JL.loadB 0 H rfl sh23 rfl rfl rfl ?_
    refine JL.callP H fb52 rfl rfl (cellOf_c g lv s _ (hl.grow H.below)) ?_
    intro w7 H _
    obtain ⟨c, hc1⟩ : ∃ c, c = (cellOfR g s).1 := ⟨_, rfl⟩
    obtain ⟨ec, hc2⟩ : ∃ ec, ec = (cellOfR g s).2 := ⟨_, rfl⟩
    rw [← hc1, ← hc2]
    have hce : cellOfR g s = (c, ec) := by rw [hc1, hc2]
    refine JL.pure rfl rfl ?_
    refine JL.pure rfl rfl ?_
    refine JL.pure rfl rfl ?_
    refine JL.alloc H z62 rfl ?_
    intro b12 w8 H
    refine JL.storeB 0 H rfl rfl sh62 rfl rfl rfl rfl rfl ?_
    intro w9 H
    refine JL.pure rfl rfl ?_
    refine JL.nil ?_
    ((repeat refine Ex.normal_block ?_); refine Ex.next ?_)
    ((repeat refine JC.seq ?_); refine JC.region ?_)
    refine JL.loadB 4 H rfl sh52 rfl rfl rfl ?_
    refine JL.loadB 3 H rfl sh23 rfl rfl rfl ?_
    refine JL.pure rfl rfl ?_
    refine JL.call fb77 rfl rfl (disc_c g lv a radius _ (hl.grow H.below)) ?_
    rintro _ w10 ⟨dv, rfl, K⟩
    have H := H.join K
    refine ⟨_, rfl, ?_⟩
    refine JL.pure rfl rfl ?_
    refine JL.pure rfl rfl ?_
    refine JL.pure rfl rfl ?_
    refine JL.pure rfl rfl ?_
    refine JL.pure rfl rfl ?_
    refine JL.nil ?_
    ((repeat refine Ex.normal_block ?_); refine Ex.next ?_)
    ((repeat refine JC.seq ?_); refine JC.region ?_)
    refine JL.loadB 5 H rfl sh52 rfl rfl rfl ?_
    refine JL.loadB 4 H rfl sh23 rfl rfl rfl ?_
    refine JL.loadB 3 H rfl sh23 rfl rfl rfl ?_
    refine JL.call fb78 rfl rfl (half_c g lv a b _ (hl.grow H.below)) ?_
    rintro _ w11 ⟨hv, rfl, K⟩
    have H := H.join K
    refine ⟨_, rfl, ?_⟩
    refine JL.pure rfl rfl ?_
    refine JL.pure rfl rfl ?_
    refine JL.pure rfl rfl ?_
    refine JL.pure rfl rfl ?_
    refine JL.pure rfl rfl ?_
    refine JL.nil ?_
    ((repeat refine Ex.normal_block ?_); refine Ex.next ?_)
    ((repeat refine JC.seq ?_); refine JC.region ?_)
    refine JL.pure rfl rfl ?_
    refine JL.pure rfl rfl ?_
    refine JL.nil ?_
    ((repeat refine Ex.normal_block ?_); refine Ex.next ?_)
    ((repeat refine JC.seq ?_); refine JC.cond rfl ?_ ?_)
    · intro h52
      (try simp only [Bool.not_eq_true', Bool.not_eq_false', decide_eq_true_eq, decide_eq_false_iff_not] at h52)
      
      ((repeat refine JC.seq ?_); refine JC.region ?_)
      refine JL.pure rfl rfl ?_
      refine JL.pure rfl rfl ?_
      refine JL.nil ?_
      ((repeat refine Ex.normal_block ?_); refine Ex.next ?_)
      ((repeat refine JC.seq ?_); refine JC.ret ?_)
      (repeat (first | refine Ex.ret_then ?_ | refine Ex.ret_block ?_))
      refine Ex.ret1 rfl (.tmp rfl) ⟨?_, H.below⟩
      rfl
    · intro h52
      (try simp only [Bool.not_eq_true', Bool.not_eq_false', decide_eq_true_eq, decide_eq_false_iff_not] at h52)
      have h52 : ec = 0 := by simpa using h52
      subst h52
      obtain ⟨hgok, hsok, hin, hcc⟩ := cellOf_ok hce
      obtain ⟨hgW, hgH, hgS, hgl⟩ := Grid.ok_b hgok
      have hsb := Spot.ok_b hsok
      unfold inG at hin
      have m1 := mul_bd (M := 0) hin.1.1 (show c.X ≤ 256 by omega) (show 0 ≤ g.S by omega) hgS.2
      have m2 := mul_bd (M := 0) hin.2.1 (show c.Y ≤ 256 by omega) (show 0 ≤ g.S by omega) hgS.2
      ((repeat refine JC.seq ?_); refine JC.skip ?_)
      ((repeat refine Ex.normal_block ?_); refine Ex.next ?_)
      ((repeat refine JC.seq ?_); refine JC.draw 12 H mixed (by kernel_rfl) rfl ?_)
      refine JD.fieldAddr rfl Try.underlying23 rfl sh3 rfl ?_
      refine JD.loadB 3 rfl sh3 rfl rfl rfl ?_
      refine JD.fieldAddr rfl Try.underlying23 rfl sh3 rfl ?_
      refine JD.loadB 5 rfl sh3 rfl rfl rfl ?_
      refine JD.pure rfl rfl ?_
      refine JD.fieldAddr rfl Try.underlying23 rfl sh3 rfl ?_
      refine JD.loadB 3 rfl sh3 rfl rfl rfl ?_
      refine JD.fieldAddr rfl Try.underlying23 rfl sh3 rfl ?_
      refine JD.loadB 5 rfl sh3 rfl rfl rfl ?_
      refine JD.pure rfl rfl ?_
      refine JD.pure rfl rfl ?_
      refine JD.pure rfl rfl ?_
      refine JD.nil ?_
      intro w12 H
      show JL _ _ _ _ _ _ _
      refine JL.nil ?_
      ((repeat refine Ex.normal_block ?_); refine Ex.next ?_)
      ((repeat refine JC.seq ?_); refine JC.draw 44 H mixed (by kernel_rfl) rfl ?_)
      refine JD.fieldAddr rfl Try.underlying62 rfl sh3 rfl ?_
      refine JD.loadB 2 rfl sh3 rfl rfl rfl ?_
      refine JD.fieldAddr rfl Try.underlying52 rfl sh3 rfl ?_
      refine JD.loadB 6 rfl sh3 rfl rfl rfl ?_
      refine JD.arith rfl (by unfold In64; omega) rfl ?_
      refine JD.fieldAddr rfl Try.underlying23 rfl sh3 rfl ?_
      refine JD.loadB 5 rfl sh3 rfl rfl rfl ?_
      refine JD.pure rfl rfl ?_
      refine JD.fieldAddr rfl Try.underlying23 rfl sh3 rfl ?_
      refine JD.loadB 5 rfl sh3 rfl rfl rfl ?_
      refine JD.fieldAddr rfl Try.underlying62 rfl sh3 rfl ?_
      refine JD.loadB 2 rfl sh3 rfl rfl rfl ?_
      refine JD.fieldAddr rfl Try.underlying52 rfl sh3 rfl ?_
      refine JD.loadB 6 rfl sh3 rfl rfl rfl ?_
      refine JD.arith rfl (by unfold In64; omega) rfl ?_
      refine JD.pure rfl rfl ?_
      refine JD.fieldAddr rfl Try.underlying52 rfl sh3 rfl ?_
      refine JD.loadB 6 rfl sh3 rfl rfl rfl ?_
      refine JD.pure rfl rfl ?_
      refine JD.pure rfl rfl ?_
      refine JD.pure rfl rfl ?_
      refine JD.fieldAddr rfl Try.underlying62 rfl sh3 rfl ?_
      refine JD.loadB 2 rfl sh3 rfl rfl rfl ?_
      refine JD.fieldAddr rfl Try.underlying52 rfl sh3 rfl ?_
      refine JD.loadB 6 rfl sh3 rfl rfl rfl ?_
      refine JD.arith rfl (by unfold In64; omega) rfl ?_
      refine JD.fieldAddr rfl Try.underlying23 rfl sh3 rfl ?_
      refine JD.loadB 5 rfl sh3 rfl rfl rfl ?_
      refine JD.pure rfl rfl ?_
      refine JD.fieldAddr rfl Try.underlying23 rfl sh3 rfl ?_
      refine JD.loadB 5 rfl sh3 rfl rfl rfl ?_
      refine JD.fieldAddr rfl Try.underlying62 rfl sh3 rfl ?_
      refine JD.loadB 2 rfl sh3 rfl rfl rfl ?_
      refine JD.fieldAddr rfl Try.underlying52 rfl sh3 rfl ?_
      refine JD.loadB 6 rfl sh3 rfl rfl rfl ?_
      refine JD.arith rfl (by unfold In64; omega) rfl ?_
      refine JD.pure rfl rfl ?_
      refine JD.fieldAddr rfl Try.underlying52 rfl sh3 rfl ?_
      refine JD.loadB 6 rfl sh3 rfl rfl rfl ?_
      refine JD.pure rfl rfl ?_
      refine JD.pure rfl rfl ?_
      refine JD.pure rfl rfl ?_
      refine JD.pure rfl rfl ?_
      refine JD.pure rfl rfl ?_
      refine JD.nil ?_
      intro w13 H
      show JL _ _ _ _ _ _ _
      refine JL.nil ?_
      ((repeat refine Ex.normal_block ?_); refine Ex.next ?_)
      ((repeat refine JC.seq ?_); refine JC.regionTo ([(6, .pointer (some ⟨b6, 0, none⟩)), (7, .pointer (some ⟨b7, 0, none⟩)), (11, .bool true), (12, .pointer (some ⟨b12, 0, none⟩)), (16, hv), (17, .int .i64 (halfR g a b).2), (18, .int .i64 (w64 (s.X - a.X))), (19, .int .i64 (w64 (s.Y - a.Y))), (143, .bool false)]) (fun wr => Own w wr [runRow hv (halfR g a b).1, runRow dv (discR g a radius).1, blk b12 (.cells ⟨[.int .i64 c.X, .int .i64 c.Y]⟩ 62 (0, 0)), blk b8 (.cells ⟨[.int .i64 s.X, .int .i64 s.Y]⟩ 23 (0, 0)), blk b7 (.cells ⟨[.int .i64 b.X, .int .i64 b.Y]⟩ 23 (0, 0)), blk b6 (.cells ⟨[.int .i64 a.X, .int .i64 a.Y]⟩ 23 (0, 0)), blk b5 (.cells ⟨[.int .i64 g.W, .int .i64 g.H, .int .i64 g.S, lv]⟩ 52 (0, 0))]) ?_ ?_)
      ·
        refine JL.pure rfl rfl ?_
        refine JL.pure rfl rfl ?_
        refine JL.pure rfl rfl ?_
        refine JL.cases 108 rfl ?_ ?_
        · intro h108
          (try simp only [Bool.not_eq_true', Bool.not_eq_false', decide_eq_true_eq, decide_eq_false_iff_not] at h108)
          have hf0 : (discR g a radius).2 = 0 := by simpa using h108
          obtain ⟨_, haok, hra⟩ := discR_ok hf0
          have hab := Spot.ok_b haok
          obtain ⟨rd1, rd2⟩ := reach_disc (g := g) (s := s) (a := a) (radius := radius) (by rw [hce]) hf0
          rw [hce] at rd1 rd2
          simp only at rd1 rd2
          refine JL.want rfl rfl ?_
          refine JL.pure rfl rfl ?_
          refine JL.want rfl rfl ?_
          refine JL.pure rfl rfl ?_
          refine JL.want rfl rfl ?_
          refine JL.pure rfl rfl ?_
          refine JL.want rfl rfl ?_
          refine JL.pure rfl rfl ?_
          refine JL.want rfl rfl ?_
          refine JL.pure rfl rfl ?_
          refine JL.want rfl rfl ?_
          refine JL.pure rfl rfl ?_
          refine JL.want rfl rfl ?_
          refine JL.pure rfl rfl ?_
          refine JL.want rfl rfl ?_
          refine JL.pure rfl rfl ?_
          refine JL.want rfl rfl ?_
          refine JL.pure rfl rfl ?_
          refine JL.want rfl rfl ?_
          refine JL.pure rfl rfl ?_
          refine JL.want rfl rfl ?_
          refine JL.pure rfl rfl ?_
          refine JL.re 119 rfl (v' := .bool (decide ((s.X - a.X) * (s.X - a.X) + (s.Y - a.Y) * (s.Y - a.Y) ≤ radius * radius))) (by rw [w64_d hsb.1 hab.1, w64_d hsb.2 hab.2, w64_sq (by omega) (by omega), w64_s (by omega)]) ?_
          refine JL.want rfl rfl ?_
          refine JL.pure rfl rfl ?_
          refine JL.cases 120 rfl ?_ ?_
          · intro h120
            (try simp only [Bool.not_eq_true', Bool.not_eq_false', decide_eq_true_eq, decide_eq_false_iff_not] at h120)
            refine JL.want rfl rfl ?_
            refine JL.pure rfl rfl ?_
            refine JL.want rfl rfl ?_
            refine JL.loadB 2 H rfl sh62 rfl rfl rfl ?_
            refine JL.want rfl rfl ?_
            refine JL.callP H fb48 rfl rfl (has_c _ (discR g a radius).1 c _ (runSl H (j := 1) rfl (by have := discR_len g a radius; omega))) ?_
            intro w14 H _
            refine JL.want rfl rfl ?_
            refine JL.pure rfl rfl ?_
            refine JL.want rfl rfl ?_
            refine JL.pure rfl rfl ?_
            refine JL.want rfl rfl ?_
            refine JL.pure rfl rfl ?_
            refine JL.cases 126 rfl ?_ ?_
            · intro h126
              (try simp only [Bool.not_eq_true', Bool.not_eq_false', decide_eq_true_eq, decide_eq_false_iff_not] at h126)
              refine JL.pass rfl rfl rfl rfl ?_
              refine JL.pass rfl rfl rfl rfl ?_
              refine JL.pass rfl rfl rfl rfl ?_
              refine JL.pass rfl rfl rfl rfl ?_
              refine JL.pass rfl rfl rfl rfl ?_
              refine JL.pass rfl rfl rfl rfl ?_
              refine JL.pass rfl rfl rfl rfl ?_
              refine JL.pass rfl rfl rfl rfl ?_
              refine JL.pass rfl rfl rfl rfl ?_
              refine JL.pass rfl rfl rfl rfl ?_
              refine JL.pass rfl rfl rfl rfl ?_
              refine JL.pass rfl rfl rfl rfl ?_
              refine JL.pass rfl rfl rfl rfl ?_
              refine JL.pass rfl rfl rfl rfl ?_
              refine JL.pass rfl rfl rfl rfl ?_
              refine JL.want rfl rfl ?_
              refine JL.pure rfl rfl ?_
              refine JL.pure rfl rfl ?_
              refine JL.nil ?_
              refine Ex.to ⟨rfl, rfl, rfl, rfl, rfl, rfl, rfl, rfl, ?_, trivial⟩ H
              show some (Value.bool _) = some (Value.bool _)
              first | rfl | (rw [rd1 h120] at h126; cases h126; done) | (rw [rd2]; simp)
            · intro h126
              (try simp only [Bool.not_eq_true', Bool.not_eq_false', decide_eq_true_eq, decide_eq_false_iff_not] at h126)
              refine JL.want rfl rfl ?_
              refine JL.pure rfl rfl ?_
              refine JL.want rfl rfl ?_
              refine JL.loadB 2 H rfl sh62 rfl rfl rfl ?_
              refine JL.want rfl rfl ?_
              refine JL.callP H fb48 rfl rfl (has_c _ (discR g a radius).1 c _ (runSl H (j := 1) rfl (by have := discR_len g a radius; omega))) ?_
              intro w15 H _
              refine JL.want rfl rfl ?_
              refine JL.pure rfl rfl ?_
              refine JL.want rfl rfl ?_
              refine JL.pure rfl rfl ?_
              refine JL.want rfl rfl ?_
              refine JL.pure rfl rfl ?_
              refine JL.want rfl rfl ?_
              refine JL.pure rfl rfl ?_
              refine JL.want rfl rfl ?_
              refine JL.pure rfl rfl ?_
              refine JL.want rfl rfl ?_
              refine JL.pure rfl rfl ?_
              refine JL.want rfl rfl ?_
              refine JL.pure rfl rfl ?_
              refine JL.want rfl rfl ?_
              refine JL.pure rfl rfl ?_
              refine JL.want rfl rfl ?_
              refine JL.pure rfl rfl ?_
              refine JL.want rfl rfl ?_
              refine JL.pure rfl rfl ?_
              refine JL.want rfl rfl ?_
              refine JL.pure rfl rfl ?_
              refine JL.re 140 rfl (v' := .bool (decide (awayI g.S a.X c.X * awayI g.S a.X c.X + awayI g.S a.Y c.Y * awayI g.S a.Y c.Y ≤ radius * radius))) (by rw [w64_aw m1 hgS hab.1, w64_aw m2 hgS hab.2, w64_sq (away_bd m1 hgS hab.1) (away_bd m2 hgS hab.2), w64_s (by omega)]) ?_
              refine JL.want rfl rfl ?_
              refine JL.eqs rfl rfl (neqBool 4 Try.underlying4 _ _) rfl ?_
              refine JL.want rfl rfl ?_
              refine JL.pure rfl rfl ?_
              refine JL.pure rfl rfl ?_
              refine JL.nil ?_
              refine Ex.to ⟨rfl, rfl, rfl, rfl, rfl, rfl, rfl, rfl, ?_, trivial⟩ H
              show some (Value.bool _) = some (Value.bool _)
              first | rfl | (rw [rd1 h120] at h126; cases h126; done) | (rw [rd2]; simp)
          · intro h120
            (try simp only [Bool.not_eq_true', Bool.not_eq_false', decide_eq_true_eq, decide_eq_false_iff_not] at h120)
            refine JL.pass rfl rfl rfl rfl ?_
            refine JL.pass rfl rfl rfl rfl ?_
            refine JL.pass rfl rfl rfl rfl ?_
            refine JL.pass rfl rfl rfl rfl ?_
            refine JL.want rfl rfl ?_
            refine JL.pure rfl rfl ?_
            refine JL.want rfl rfl ?_
            refine JL.pure rfl rfl ?_
            refine JL.want rfl rfl ?_
            refine JL.pure rfl rfl ?_
            refine JL.want rfl rfl ?_
            refine JL.loadB 2 H rfl sh62 rfl rfl rfl ?_
            refine JL.want rfl rfl ?_
            refine JL.callP H fb48 rfl rfl (has_c _ (discR g a radius).1 c _ (runSl H (j := 1) rfl (by have := discR_len g a radius; omega))) ?_
            intro w16 H _
            refine JL.want rfl rfl ?_
            refine JL.pure rfl rfl ?_
            refine JL.want rfl rfl ?_
            refine JL.pure rfl rfl ?_
            refine JL.want rfl rfl ?_
            refine JL.pure rfl rfl ?_
            refine JL.want rfl rfl ?_
            refine JL.pure rfl rfl ?_
            refine JL.want rfl rfl ?_
            refine JL.pure rfl rfl ?_
            refine JL.want rfl rfl ?_
            refine JL.pure rfl rfl ?_
            refine JL.want rfl rfl ?_
            refine JL.pure rfl rfl ?_
            refine JL.want rfl rfl ?_
            refine JL.pure rfl rfl ?_
            refine JL.want rfl rfl ?_
            refine JL.pure rfl rfl ?_
            refine JL.want rfl rfl ?_
            refine JL.pure rfl rfl ?_
            refine JL.want rfl rfl ?_
            refine JL.pure rfl rfl ?_
            refine JL.re 140 rfl (v' := .bool (decide (awayI g.S a.X c.X * awayI g.S a.X c.X + awayI g.S a.Y c.Y * awayI g.S a.Y c.Y ≤ radius * radius))) (by rw [w64_aw m1 hgS hab.1, w64_aw m2 hgS hab.2, w64_sq (away_bd m1 hgS hab.1) (away_bd m2 hgS hab.2), w64_s (by omega)]) ?_
            refine JL.want rfl rfl ?_
            refine JL.eqs rfl rfl (neqBool 4 Try.underlying4 _ _) rfl ?_
            refine JL.want rfl rfl ?_
            refine JL.pure rfl rfl ?_
            refine JL.pure rfl rfl ?_
            refine JL.nil ?_
            refine Ex.to ⟨rfl, rfl, rfl, rfl, rfl, rfl, rfl, rfl, ?_, trivial⟩ H
            show some (Value.bool _) = some (Value.bool _)
            first | rfl | (rw [rd1 h120] at h126; cases h126; done) | (rw [rd2]; simp)
        · intro h108
          (try simp only [Bool.not_eq_true', Bool.not_eq_false', decide_eq_true_eq, decide_eq_false_iff_not] at h108)
          have hf0 : (discR g a radius).2 ≠ 0 := by simpa using h108
          refine JL.pass rfl rfl rfl rfl ?_
          refine JL.pass rfl rfl rfl rfl ?_
          refine JL.pass rfl rfl rfl rfl ?_
          refine JL.pass rfl rfl rfl rfl ?_
          refine JL.pass rfl rfl rfl rfl ?_
          refine JL.pass rfl rfl rfl rfl ?_
          refine JL.pass rfl rfl rfl rfl ?_
          refine JL.pass rfl rfl rfl rfl ?_
          refine JL.pass rfl rfl rfl rfl ?_
          refine JL.pass rfl rfl rfl rfl ?_
          refine JL.pass rfl rfl rfl rfl ?_
          refine JL.pass rfl rfl rfl rfl ?_
          refine JL.passU rfl rfl rfl ?_
          refine JL.passU rfl rfl rfl ?_
          refine JL.passU rfl rfl rfl ?_
          refine JL.passU rfl rfl rfl ?_
          refine JL.pass rfl rfl rfl rfl ?_
          refine JL.pass rfl rfl rfl rfl ?_
          refine JL.passU rfl rfl rfl ?_
          refine JL.passU rfl rfl rfl ?_
          refine JL.passU rfl rfl rfl ?_
          refine JL.passU rfl rfl rfl ?_
          refine JL.passU rfl rfl rfl ?_
          refine JL.passU rfl rfl rfl ?_
          refine JL.passU rfl rfl rfl ?_
          refine JL.passU rfl rfl rfl ?_
          refine JL.passU rfl rfl rfl ?_
          refine JL.passU rfl rfl rfl ?_
          refine JL.passU rfl rfl rfl ?_
          refine JL.passU rfl rfl rfl ?_
          refine JL.passU rfl rfl rfl ?_
          refine JL.passU rfl rfl rfl ?_
          refine JL.passU rfl rfl rfl ?_
          refine JL.pass rfl rfl rfl rfl ?_
          refine JL.pure rfl rfl ?_
          refine JL.nil ?_
          refine Ex.to ⟨rfl, rfl, rfl, rfl, rfl, rfl, rfl, rfl, ?_, trivial⟩ H
          show some (Value.bool _) = some (Value.bool _)
          first | rfl | (rw [rd1 h120] at h126; cases h126; done) | (rw [rd2]; simp)
      · intro wc H
        ((repeat refine Ex.normal_block ?_); refine Ex.next ?_)
        ((repeat refine JC.seq ?_); refine JC.cond rfl (fun h => by cases h) (fun _ => ?_))
        ((repeat refine JC.seq ?_); refine JC.skip ?_)
        ((repeat refine Ex.normal_block ?_); refine Ex.next ?_)
        ((repeat refine JC.seq ?_); refine JC.region ?_)
        refine JL.fieldAddr rfl Try.underlying23 rfl sh3 rfl ?_
        refine JL.loadB 4 H rfl sh3 rfl rfl rfl ?_
        refine JL.fieldAddr rfl Try.underlying23 rfl sh3 rfl ?_
        refine JL.loadB 5 H rfl sh3 rfl rfl rfl ?_
        refine JL.pure rfl rfl ?_
        refine JL.pure rfl rfl ?_
        refine JL.pure rfl rfl ?_
        refine JL.fieldAddr rfl Try.underlying23 rfl sh3 rfl ?_
        refine JL.loadB 4 H rfl sh3 rfl rfl rfl ?_
        refine JL.fieldAddr rfl Try.underlying23 rfl sh3 rfl ?_
        refine JL.loadB 5 H rfl sh3 rfl rfl rfl ?_
        refine JL.pure rfl rfl ?_
        refine JL.pure rfl rfl ?_
        refine JL.pure rfl rfl ?_
        refine JL.pure rfl rfl ?_
        refine JL.pure rfl rfl ?_
        refine JL.pure rfl rfl ?_
        refine JL.nil ?_
        ((repeat refine Ex.normal_block ?_); refine Ex.next ?_)
        ((repeat refine JC.seq ?_); refine JC.region ?_)
        refine JL.pure rfl rfl ?_
        refine JL.pure rfl rfl ?_
        refine JL.want rfl rfl ?_
        refine JL.pure rfl rfl ?_
        refine JL.want rfl rfl ?_
        refine JL.pure rfl rfl ?_
        refine JL.want rfl rfl ?_
        refine JL.pure rfl rfl ?_
        refine JL.cases 164 rfl ?_ ?_
        · intro h164
          (try simp only [Bool.not_eq_true', Bool.not_eq_false', decide_eq_true_eq, decide_eq_false_iff_not] at h164)
          refine JL.pass rfl rfl rfl rfl ?_
          refine JL.pass rfl rfl rfl rfl ?_
          refine JL.want rfl rfl ?_
          refine JL.pure rfl rfl ?_
          refine JL.want rfl rfl ?_
          refine JL.pure rfl rfl ?_
          refine JL.pass rfl rfl rfl rfl ?_
          refine JL.pass rfl rfl rfl rfl ?_
          refine JL.pass rfl rfl rfl rfl ?_
          refine JL.want rfl rfl ?_
          refine JL.pure rfl rfl ?_
          refine JL.pure rfl rfl ?_
          refine JL.pure rfl rfl ?_
          refine JL.nil ?_
          ((repeat refine Ex.normal_block ?_); refine Ex.next ?_)
          ((repeat refine JC.seq ?_); refine JC.ret ?_)
          (repeat (first | refine Ex.ret_then ?_ | refine Ex.ret_block ?_))
          refine Ex.ret1 rfl (.tmp rfl) ⟨?_, H.below⟩
          rfl
        · intro h164
          (try simp only [Bool.not_eq_true', Bool.not_eq_false', decide_eq_true_eq, decide_eq_false_iff_not] at h164)
          refine JL.want rfl rfl ?_
          refine JL.pure rfl rfl ?_
          refine JL.want rfl rfl ?_
          refine JL.pure rfl rfl ?_
          refine JL.want rfl rfl ?_
          refine JL.pure rfl rfl ?_
          refine JL.want rfl rfl ?_
          refine JL.pure rfl rfl ?_
          refine JL.cases 168 rfl ?_ ?_
          · intro h168
            (try simp only [Bool.not_eq_true', Bool.not_eq_false', decide_eq_true_eq, decide_eq_false_iff_not] at h168)
            refine JL.pass rfl rfl rfl rfl ?_
            refine JL.pass rfl rfl rfl rfl ?_
            refine JL.pass rfl rfl rfl rfl ?_
            refine JL.want rfl rfl ?_
            refine JL.pure rfl rfl ?_
            refine JL.pure rfl rfl ?_
            refine JL.pure rfl rfl ?_
            refine JL.nil ?_
            ((repeat refine Ex.normal_block ?_); refine Ex.next ?_)
            ((repeat refine JC.seq ?_); refine JC.ret ?_)
            (repeat (first | refine Ex.ret_then ?_ | refine Ex.ret_block ?_))
            refine Ex.ret1 rfl (.tmp rfl) ⟨?_, H.below⟩
            rfl
          · intro h168
            (try simp only [Bool.not_eq_true', Bool.not_eq_false', decide_eq_true_eq, decide_eq_false_iff_not] at h168)
            refine JL.want rfl rfl ?_
            refine JL.pure rfl rfl ?_
            refine JL.want rfl rfl ?_
            refine JL.loadB 2 H rfl sh62 rfl rfl rfl ?_
            refine JL.want rfl rfl ?_
            refine JL.callP H fb48 rfl rfl (has_c _ (halfR g a b).1 c _ (runSl H (j := 0) rfl (by have := halfR_len g a b; omega))) ?_
            intro w17 H _
            refine JL.want rfl rfl ?_
            refine JL.pure rfl rfl ?_
            refine JL.pure rfl rfl ?_
            refine JL.pure rfl rfl ?_
            refine JL.nil ?_
            ((repeat refine Ex.normal_block ?_); refine Ex.next ?_)
            ((repeat refine JC.seq ?_); refine JC.ret ?_)
            (repeat (first | refine Ex.ret_then ?_ | refine Ex.ret_block ?_))
            refine Ex.ret1 rfl (.tmp rfl) ⟨?_, H.below⟩
            have hh0 : (halfR g a b).2 = 0 := by simpa using h164
            obtain ⟨_, hao, hbo, _⟩ := halfR_ok hh0
            have ha2 := Spot.ok_b hao
            have hb2 := Spot.ok_b hbo
            have h168 : 0 ≤ w64 (w64 (w64 (b.X - a.X) * w64 (s.Y - a.Y)) - w64 (w64 (b.Y - a.Y) * w64 (s.X - a.X))) := by simpa using h168
            rw [w64_d hsb.1 ha2.1, w64_d hsb.2 ha2.2, w64_d hb2.1 ha2.1, w64_d hb2.2 ha2.2, w64_left (by omega) (by omega) (by omega) (by omega)] at h168
            have hq := reach_half (g := g) (s := s) (a := a) (b := b) (by rw [hce]) hh0 h168
            rw [hce] at hq
            exact congrArg (fun b => Ending.returned (Value.bool b)) hq
end Go.J
