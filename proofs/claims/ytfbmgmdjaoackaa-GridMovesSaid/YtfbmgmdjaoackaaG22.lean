/-
  Lemmas for the statements of this seat; no statement is proved here. No condition.
-/
import Derived.Test.YtfbmgmdjaoackaaG21
namespace Go.J
open Go.RowKit Go.Proofs
set_option maxRecDepth 8000
set_option linter.unusedSimpArgs false
set_option linter.unusedVariables false
theorem bothR_len (g : Grid) (a b : List Run) : (bothR g a b).1.length ≤ 8192 := by
  unfold bothR; split
  · exact regRes_len _
  · simp
theorem both2_c (g : Grid) (lv av bv : Value) (a b : List Run) (w : World) (hl : SlR w lv g.land) (ha : SlR w av a) (hb : SlR w bv b) (hca : capOK av) (hcb : capOK bv) :
    Calls Try.prog 42 #[g.ev lv, av, bv] w (fun e w' => ResR w w' [] (bothR g a b) e) := by
  obtain ⟨aa, ac, rfl⟩ := ha.len
  obtain ⟨ba, bc, rfl⟩ := hb.len
  refine calls_J (args := [g.ev lv, .slice aa a.length ac, .slice ba b.length bc]) Try.func42 rfl Try.ntmps42 rfl ?_
  have H := Own.start w
  ((repeat refine JC.seq ?_); refine JC.region ?_)
  refine JL.box H rfl rfl rfl ?_
  intro b3 w1 H
  refine JL.pure rfl rfl ?_
  refine JL.pure rfl rfl ?_
  refine JL.nil ?_
  ((repeat refine Ex.normal_block ?_); refine Ex.next ?_)
  ((repeat refine JC.seq ?_); refine JC.region ?_)
  refine JL.loadB 0 H rfl sh52 rfl rfl rfl ?_
  refine JL.pure rfl rfl ?_
  refine JL.pure rfl rfl ?_
  refine JL.buildSlice H Try.underlying134 sh50 z50 rfl rfl rfl rfl rfl ?_
  intro b13 w2 H
  refine JL.callP H fb129 rfl rfl (checked_c g lv _ [(.slice aa a.length ac, a), (.slice ba b.length bc, b)] _ (hl.grow H.below) (H.blkSl1 (j := 0) (ev := Prod.fst) rfl [(.slice aa a.length ac, a), (.slice ba b.length bc, b)] rfl (by simp)) (by
    have hB := H.below
    intro p hp
    simp only [List.mem_cons, List.not_mem_nil, or_false] at hp
    rcases hp with rfl | rfl
    · exact ha.grow hB
    · exact hb.grow hB)) ?_
  intro w3 H _
  refine JL.pure rfl rfl ?_
  refine JL.nil ?_
  ((repeat refine Ex.normal_block ?_); refine Ex.next ?_)
  ((repeat refine JC.seq ?_); refine JC.region ?_)
  refine JL.pure rfl rfl ?_
  refine JL.pure rfl rfl ?_
  refine JL.nil ?_
  ((repeat refine Ex.normal_block ?_); refine Ex.next ?_)
  ((repeat refine JC.seq ?_); refine JC.cond rfl ?_ ?_)
  · intro h16
    (try simp only [Bool.not_eq_true', Bool.not_eq_false', decide_eq_true_eq, decide_eq_false_iff_not] at h16)
    have hok : checkedB g [a, b] = false := by
      cases hc : checkedB g [a, b] with
      | false => rfl
      | true => exfalso; simp [hc] at h16
    ((repeat refine JC.seq ?_); refine JC.region ?_)
    refine JL.pure rfl rfl ?_
    refine JL.pure rfl rfl ?_
    refine JL.pure rfl rfl ?_
    refine JL.nil ?_
    ((repeat refine Ex.normal_block ?_); refine Ex.next ?_)
    ((repeat refine JC.seq ?_); refine JC.ret ?_)
    (repeat (first | refine Ex.ret_then ?_ | refine Ex.ret_block ?_))
    refine Ex.ret2 rfl (.tmp rfl) (.tmp rfl) ?_
    unfold bothR ResR; rw [hok]
    exact ⟨.slice none 0 0, by simp [hok], (((H.drop 0).drop 0).nilRow 140 3)⟩
  · intro h16
    (try simp only [Bool.not_eq_true', Bool.not_eq_false', decide_eq_true_eq, decide_eq_false_iff_not] at h16)
    have hok : checkedB g [a, b] = true := by
      cases hc : checkedB g [a, b] with
      | true => rfl
      | false => exfalso; simp [hc] at h16
    obtain ⟨hgok, hall⟩ := checkedB_b hok
    obtain ⟨hgW, hgH, hgS, hgl⟩ := Grid.ok_b hgok
    have hal := rightB_len (hall a (by simp))
    have hbl := rightB_len (hall b (by simp))
    ((repeat refine JC.seq ?_); refine JC.skip ?_)
    ((repeat refine Ex.normal_block ?_); refine Ex.next ?_)
    ((repeat refine JC.seq ?_); refine JC.region ?_)
    refine JL.buildA Try.underlying195 sh193 za195 rfl rfl ?_
    refine JL.box H rfl rfl rfl ?_
    intro b19 w4 H
    have H := H.newT
    refine JL.pure rfl rfl ?_
    refine JL.nil ?_
    ((repeat refine Ex.normal_block ?_); refine Ex.next ?_)
    ((repeat refine JC.seq ?_); refine JC.region ?_)
    refine JL.pure rfl rfl ?_
    refine JL.loadB 2 H rfl sh52 rfl rfl rfl ?_
    refine JL.pure rfl rfl ?_
    refine JL.pure rfl rfl ?_
    refine JL.call fb130 rfl rfl (both_c (k := 0) H g lv _ _ a b hgW hgH (fun w' T' h => ha.grow h.below) (fun w' T' h => hb.grow h.below) hca hcb (tab0_good _) (by omega)) ?_
    rintro _ w5 ⟨rfl, H⟩
    refine ⟨_, rfl, ?_⟩
    refine JL.nil ?_
    ((repeat refine Ex.normal_block ?_); refine Ex.next ?_)
    ((repeat refine JC.seq ?_); refine JC.region ?_)
    refine JL.pure rfl rfl ?_
    refine JL.call fb131 rfl rfl (region_c2 H (bothT_good g a b) (by omega) hgW.2) ?_
    rintro _ w6 ⟨rv, rfl, H⟩
    refine ⟨_, rfl, ?_⟩
    refine JL.pure rfl rfl ?_
    refine JL.pure rfl rfl ?_
    refine JL.pure rfl rfl ?_
    refine JL.pure rfl rfl ?_
    refine JL.nil ?_
    ((repeat refine Ex.normal_block ?_); refine Ex.next ?_)
    ((repeat refine JC.seq ?_); refine JC.ret ?_)
    (repeat (first | refine Ex.ret_then ?_ | refine Ex.ret_block ?_))
    refine Ex.ret2 rfl (.tmp rfl) (.tmp rfl) ?_
    unfold bothR; rw [hok]
    exact ⟨_, rfl, (H.drop 1).drop 1⟩
theorem great_small {g : Grid} {n : Int} {l : List (List Run)} (h : greatB g n l = false) : (g.ok = true → g.W * g.H ≤ n) ∧ g.land.length ≤ 300 ∧ ∀ r ∈ l, r.length ≤ 300 := by
  unfold greatB at h
  simp only [Bool.or_eq_false_iff] at h
  obtain ⟨⟨h1, h2⟩, h3⟩ := h
  refine ⟨fun hg => ?_, ?_, fun r hr => ?_⟩
  · obtain ⟨hW, hH, _, _⟩ := Grid.ok_b hg
    unfold hugeB at h1
    simp only [Bool.and_eq_false_iff, decide_eq_false_iff_not] at h1
    omega
  · have := of_decide_eq_false h2; omega
  · have := List.any_eq_false.1 h3 r hr
    simp at this
    omega
theorem tame_right {W H : Int} (hW : W ≤ 256) {rs : List Run} (h : Canon W H rs) : Tame rs := fun r hr => by have := h.rng r hr; omega
theorem growR_tame {g : Grid} (hs : g.ok = true → g.W * g.H ≤ 4096) (r : List Run) (p : Push) : Tame (growR g r p).1 := by
  rcases growR_small hs r p with h | ⟨h1, _, h2, h3⟩
  · rw [h]; intro r hr; cases hr
  · rw [h2]
    have := (Grid.ok_b (checkedB_b h1).1).1
    exact tame_right this.2 (canon_of_right h3)
theorem gridMore_w (g : Grid) (lv av bv : Value) (a b : List Run) (p q : Push) (w : World) (hl : SlR w lv g.land) (ha : SlR w av a) (hb : SlR w bv b) (hca : capOK av) (hcb : capOK bv) :
    Pur Try.prog 6 #[g.ev lv, av, bv, p.ev, q.ev] w (.bool true) := by
  obtain ⟨aa, ac, rfl⟩ := ha.len
  obtain ⟨ba, bc, rfl⟩ := hb.len
  refine pur_J (args := [g.ev lv, .slice aa a.length ac, .slice ba b.length bc, p.ev, q.ev]) Try.func6 rfl Try.ntmps6 rfl ?_
  have H := Own.start w
  ((repeat refine JC.seq ?_); refine JC.region ?_)
  refine JL.box H rfl rfl rfl ?_
  intro b5 w1 H
  refine JL.box H rfl rfl rfl ?_
  intro b8 w2 H
  refine JL.box H rfl rfl rfl ?_
  intro b9 w3 H
  refine JL.pure rfl rfl ?_
  refine JL.nil ?_
  ((repeat refine Ex.normal_block ?_); refine Ex.next ?_)
  ((repeat refine JC.seq ?_); refine JC.region ?_)
  refine JL.callP H fb40 rfl rfl (alive_c _) ?_
  intro w4 H _
  refine JL.pure rfl rfl ?_
  refine JL.nil ?_
  ((repeat refine Ex.normal_block ?_); refine Ex.next ?_)
  ((repeat refine JC.seq ?_); refine JC.region ?_)
  refine JL.loadB 2 H rfl sh52 rfl rfl rfl ?_
  refine JL.pure rfl rfl ?_
  refine JL.pure rfl rfl ?_
  refine JL.buildSlice H Try.underlying134 sh50 z50 rfl rfl rfl rfl rfl ?_
  intro b35 w5 H
  refine JL.callP H fb41 rfl rfl (great_c g lv _ 1024 [((.slice aa a.length ac), a), ((.slice ba b.length bc), b)] _ (hl.grow H.below) (H.blkSl1 (j := 0) (ev := Prod.fst) rfl [((.slice aa a.length ac), a), ((.slice ba b.length bc), b)] rfl (by simp)) (by
    have hB := H.below
    intro p hp
    simp only [List.mem_cons, List.not_mem_nil, or_false] at hp
    rcases hp with rfl | rfl
    · exact ha.grow hB
    · exact hb.grow hB)) ?_
  intro w6 H _
  refine JL.pure rfl rfl ?_
  refine JL.cases 37 rfl ?_ ?_
  · intro h37
    (try simp only [Bool.not_eq_true', Bool.not_eq_false', decide_eq_true_eq, decide_eq_false_iff_not] at h37)
    
    refine JL.pass rfl rfl rfl rfl ?_
    refine JL.pass rfl rfl rfl rfl ?_
    refine JL.pure rfl rfl ?_
    refine JL.nil ?_
    ((repeat refine Ex.normal_block ?_); refine Ex.next ?_)
    ((repeat refine JC.seq ?_); refine JC.cond rfl (fun _ => ?_) (fun h => by cases h))
    ((repeat refine JC.seq ?_); refine JC.region ?_)
    refine JL.pure rfl rfl ?_
    refine JL.pure rfl rfl ?_
    refine JL.nil ?_
    ((repeat refine Ex.normal_block ?_); refine Ex.next ?_)
    ((repeat refine JC.seq ?_); refine JC.ret ?_)
    (repeat (first | refine Ex.ret_then ?_ | refine Ex.ret_block ?_))
    refine Ex.ret1 rfl (.tmp rfl) ⟨?_, H.below⟩
    rfl
  · intro h37
    (try simp only [Bool.not_eq_true', Bool.not_eq_false', decide_eq_true_eq, decide_eq_false_iff_not] at h37)
    have hsm := great_small (g := g) (n := 1024) (l := [a, b]) (by simpa using h37)
    have hs : g.ok = true → g.W * g.H ≤ 4096 := fun h => by have := hsm.1 h; omega
    have hlaw := more_law hs a b p q
    obtain ⟨bo, hbo⟩ : ∃ bo, bo = (bothR g a b).1 := ⟨_, rfl⟩
    have hbl : bo.length ≤ 8192 := by rw [hbo]; exact bothR_len g a b
    rw [← hbo] at hlaw
    refine JL.want rfl rfl ?_
    refine JL.pure rfl rfl ?_
    refine JL.want rfl rfl ?_
    refine JL.pure rfl rfl ?_
    refine JL.pure rfl rfl ?_
    refine JL.nil ?_
    ((repeat refine Ex.normal_block ?_); refine Ex.next ?_)
    ((repeat refine JC.seq ?_); refine JC.cond rfl (fun h => by cases h) (fun _ => ?_))
    ((repeat refine JC.seq ?_); refine JC.skip ?_)
    ((repeat refine Ex.normal_block ?_); refine Ex.next ?_)
    ((repeat refine JC.seq ?_); refine JC.region ?_)
    refine JL.loadB 3 H rfl sh52 rfl rfl rfl ?_
    refine JL.pure rfl rfl ?_
    refine JL.pure rfl rfl ?_
    refine JL.call fb42 rfl rfl (both2_c g lv (.slice aa a.length ac) (.slice ba b.length bc) a b _ (hl.grow H.below) (ha.grow H.below) (hb.grow H.below) hca hcb) ?_
    rintro _ w7 ⟨yv, rfl, K⟩
    rw [← hbo] at K
    have H := H.join K
    refine ⟨_, rfl, ?_⟩
    refine JL.pure rfl rfl ?_
    refine JL.pure rfl rfl ?_
    refine JL.pure rfl rfl ?_
    refine JL.pure rfl rfl ?_
    refine JL.pure rfl rfl ?_
    refine JL.nil ?_
    ((repeat refine Ex.normal_block ?_); refine Ex.next ?_)
    ((repeat refine JC.seq ?_); refine JC.region ?_)
    refine JL.loadB 4 H rfl sh52 rfl rfl rfl ?_
    refine JL.pure rfl rfl ?_
    refine JL.loadB 3 H rfl sh54 rfl rfl rfl ?_
    refine JL.call fb43 rfl rfl (grow_c g lv (.slice aa a.length ac) a p _ (hl.grow H.below) (ha.grow H.below)) ?_
    rintro _ w8 ⟨gx, rfl, K⟩
    have H := H.join K
    refine ⟨_, rfl, ?_⟩
    refine JL.pure rfl rfl ?_
    refine JL.pure rfl rfl ?_
    refine JL.pure rfl rfl ?_
    refine JL.pure rfl rfl ?_
    refine JL.pure rfl rfl ?_
    refine JL.pure rfl rfl ?_
    refine JL.pure rfl rfl ?_
    refine JL.nil ?_
    ((repeat refine Ex.normal_block ?_); refine Ex.next ?_)
    ((repeat refine JC.seq ?_); refine JC.region ?_)
    refine JL.loadB 5 H rfl sh52 rfl rfl rfl ?_
    refine JL.pure rfl rfl ?_
    refine JL.loadB 4 H rfl sh54 rfl rfl rfl ?_
    refine JL.call fb43 rfl rfl (grow_c g lv yv bo p _ (hl.grow H.below) (runSl H (j := 1) rfl (by have := hbl; omega))) ?_
    rintro _ w9 ⟨gy, rfl, K⟩
    have H := H.join K
    refine ⟨_, rfl, ?_⟩
    refine JL.pure rfl rfl ?_
    refine JL.pure rfl rfl ?_
    refine JL.pure rfl rfl ?_
    refine JL.pure rfl rfl ?_
    refine JL.pure rfl rfl ?_
    refine JL.pure rfl rfl ?_
    refine JL.pure rfl rfl ?_
    refine JL.nil ?_
    ((repeat refine Ex.normal_block ?_); refine Ex.next ?_)
    ((repeat refine JC.seq ?_); refine JC.regionTo ([(1, (.slice aa a.length ac)), (5, .pointer (some ⟨b5, 0, none⟩)), (8, .pointer (some ⟨b8, 0, none⟩)), (9, .pointer (some ⟨b9, 0, none⟩)), (11, .bool true), (13, .int .i64 (bothR g a b).2), (14, gx), (15, .bool (growR g a p).2.1), (16, .int .i64 (growR g a p).2.2), (17, gy), (74, .bool (decide (¬((bothR g a b).2 = 0 ∧ (growR g a p).2.2 = 0 ∧ (growR g bo p).2.2 = 0))))]) (fun wr => Own w wr [runRow gy (growR g bo p).1, runRow gx (growR g a p).1, runRow yv bo, blk b35 (.cells ⟨[(.slice aa a.length ac), (.slice ba b.length bc)]⟩ 50 (0, 0)), blk b9 (.cells ⟨[.int .i64 q.Low.X, .int .i64 q.Low.Y, .int .i64 q.High.X, .int .i64 q.High.Y]⟩ 54 (0, 0)), blk b8 (.cells ⟨[.int .i64 p.Low.X, .int .i64 p.Low.Y, .int .i64 p.High.X, .int .i64 p.High.Y]⟩ 54 (0, 0)), blk b5 (.cells ⟨[.int .i64 g.W, .int .i64 g.H, .int .i64 g.S, lv]⟩ 52 (0, 0))]) ?_ ?_)
    ·
      refine JL.pure rfl rfl ?_
      refine JL.pure rfl rfl ?_
      refine JL.pure rfl rfl ?_
      refine JL.cases 67 rfl ?_ ?_
      · intro h67
        (try simp only [Bool.not_eq_true', Bool.not_eq_false', decide_eq_true_eq, decide_eq_false_iff_not] at h67)
        refine JL.pass rfl rfl rfl rfl ?_
        refine JL.pass rfl rfl rfl rfl ?_
        refine JL.pure rfl rfl ?_
        refine JL.pure rfl rfl ?_
        refine JL.pass rfl rfl rfl rfl ?_
        refine JL.pass rfl rfl rfl rfl ?_
        refine JL.pure rfl rfl ?_
        refine JL.nil ?_
        refine Ex.to ⟨rfl, rfl, rfl, rfl, rfl, rfl, rfl, rfl, rfl, rfl, ?_, trivial⟩ H
        show some (Value.bool _) = some (Value.bool _)
        congr 2
        rw [Bool.eq_iff_iff, decide_eq_true_eq]
        first | (simp only [true_iff]; omega) | (simp only [decide_eq_true_eq]; omega)
      · intro h67
        (try simp only [Bool.not_eq_true', Bool.not_eq_false', decide_eq_true_eq, decide_eq_false_iff_not] at h67)
        refine JL.want rfl rfl ?_
        refine JL.pure rfl rfl ?_
        refine JL.want rfl rfl ?_
        refine JL.pure rfl rfl ?_
        refine JL.pure rfl rfl ?_
        refine JL.pure rfl rfl ?_
        refine JL.cases 71 rfl ?_ ?_
        · intro h71
          (try simp only [Bool.not_eq_true', Bool.not_eq_false', decide_eq_true_eq, decide_eq_false_iff_not] at h71)
          refine JL.pass rfl rfl rfl rfl ?_
          refine JL.pass rfl rfl rfl rfl ?_
          refine JL.pure rfl rfl ?_
          refine JL.nil ?_
          refine Ex.to ⟨rfl, rfl, rfl, rfl, rfl, rfl, rfl, rfl, rfl, rfl, ?_, trivial⟩ H
          show some (Value.bool _) = some (Value.bool _)
          congr 2
          rw [Bool.eq_iff_iff, decide_eq_true_eq]
          first | (simp only [true_iff]; omega) | (simp only [decide_eq_true_eq]; omega)
        · intro h71
          (try simp only [Bool.not_eq_true', Bool.not_eq_false', decide_eq_true_eq, decide_eq_false_iff_not] at h71)
          refine JL.want rfl rfl ?_
          refine JL.pure rfl rfl ?_
          refine JL.want rfl rfl ?_
          refine JL.pure rfl rfl ?_
          refine JL.pure rfl rfl ?_
          refine JL.nil ?_
          refine Ex.to ⟨rfl, rfl, rfl, rfl, rfl, rfl, rfl, rfl, rfl, rfl, ?_, trivial⟩ H
          show some (Value.bool _) = some (Value.bool _)
          congr 2
          rw [Bool.eq_iff_iff, decide_eq_true_eq]
          first | (simp only [true_iff]; omega) | (simp only [decide_eq_true_eq]; omega)
    · intro wc H
      ((repeat refine Ex.normal_block ?_); refine Ex.next ?_)
      ((repeat refine JC.seq ?_); refine JC.cond rfl ?_ ?_)
      · intro h74
        (try simp only [Bool.not_eq_true', Bool.not_eq_false', decide_eq_true_eq, decide_eq_false_iff_not] at h74)
        have hE : (bothR g a b).2 = 2 ∨ (growR g a p).2.2 = 2 := by
          rcases hlaw with h | h
          · exact absurd ⟨h.1, h.2.1, h.2.2.1⟩ h74
          · exact h.2
        ((repeat refine JC.seq ?_); refine JC.region ?_)
        refine JL.pure rfl rfl ?_
        refine JL.pure rfl rfl ?_
        refine JL.want rfl rfl ?_
        refine JL.pure rfl rfl ?_
        refine JL.want rfl rfl ?_
        refine JL.pure rfl rfl ?_
        refine JL.want rfl rfl ?_
        refine JL.pure rfl rfl ?_
        refine JL.cases 79 rfl ?_ ?_
        · intro h79
          (try simp only [Bool.not_eq_true', Bool.not_eq_false', decide_eq_true_eq, decide_eq_false_iff_not] at h79)
          refine JL.pass rfl rfl rfl rfl ?_
          refine JL.pass rfl rfl rfl rfl ?_
          refine JL.want rfl rfl ?_
          refine JL.pure rfl rfl ?_
          refine JL.pure rfl rfl ?_
          refine JL.pure rfl rfl ?_
          refine JL.nil ?_
          ((repeat refine Ex.normal_block ?_); refine Ex.next ?_)
          ((repeat refine JC.seq ?_); refine JC.ret ?_)
          (repeat (first | refine Ex.ret_then ?_ | refine Ex.ret_block ?_))
          refine Ex.ret1 rfl (.tmp rfl) ⟨?_, H.below⟩
          rfl
        · intro h79
          (try simp only [Bool.not_eq_true', Bool.not_eq_false', decide_eq_true_eq, decide_eq_false_iff_not] at h79)
          refine JL.want rfl rfl ?_
          refine JL.pure rfl rfl ?_
          refine JL.want rfl rfl ?_
          refine JL.pure rfl rfl ?_
          refine JL.want rfl rfl ?_
          refine JL.pure rfl rfl ?_
          refine JL.pure rfl rfl ?_
          refine JL.pure rfl rfl ?_
          refine JL.nil ?_
          ((repeat refine Ex.normal_block ?_); refine Ex.next ?_)
          ((repeat refine JC.seq ?_); refine JC.ret ?_)
          (repeat (first | refine Ex.ret_then ?_ | refine Ex.ret_block ?_))
          refine Ex.ret1 rfl (.tmp rfl) ⟨?_, H.below⟩
          have : (growR g a p).2.2 = 2 := hE.resolve_left h79
          simp [this]
      · intro h74
        (try simp only [Bool.not_eq_true', Bool.not_eq_false', decide_eq_true_eq, decide_eq_false_iff_not] at h74)
        obtain ⟨k1, k2, k3, k4, k5, k6⟩ := hlaw.resolve_right (fun h => h74 h.1)
        have txl := growR_tame hs a p
        have tyl := growR_tame hs bo p
        have tzl := growR_tame hs a (p.wide q)
        have tol := growR_tame hs a (p.sum q)
        have ttl := growR_tame hs (growR g a p).1 q
        ((repeat refine JC.seq ?_); refine JC.skip ?_)
        ((repeat refine Ex.normal_block ?_); refine Ex.next ?_)
        ((repeat refine JC.seq ?_); refine JC.region ?_)
        refine JL.fieldAddr rfl Try.underlying54 rfl sh23 rfl ?_
        refine JL.fieldAddr rfl Try.underlying23 rfl sh3 rfl ?_
        refine JL.loadB 5 H rfl sh3 rfl rfl rfl ?_
        refine JL.fieldAddr rfl Try.underlying54 rfl sh23 rfl ?_
        refine JL.fieldAddr rfl Try.underlying23 rfl sh3 rfl ?_
        refine JL.loadB 4 H rfl sh3 rfl rfl rfl ?_
        refine JL.pure rfl rfl ?_
        refine JL.fieldAddr rfl Try.underlying54 rfl sh23 rfl ?_
        refine JL.fieldAddr rfl Try.underlying23 rfl sh3 rfl ?_
        refine JL.loadB 5 H rfl sh3 rfl rfl rfl ?_
        refine JL.fieldAddr rfl Try.underlying54 rfl sh23 rfl ?_
        refine JL.fieldAddr rfl Try.underlying23 rfl sh3 rfl ?_
        refine JL.loadB 4 H rfl sh3 rfl rfl rfl ?_
        refine JL.pure rfl rfl ?_
        refine JL.build s23 rfl rfl ?_
        refine JL.fieldAddr rfl Try.underlying54 rfl sh23 rfl ?_
        refine JL.fieldAddr rfl Try.underlying23 rfl sh3 rfl ?_
        refine JL.loadB 5 H rfl sh3 rfl rfl rfl ?_
        refine JL.fieldAddr rfl Try.underlying54 rfl sh23 rfl ?_
        refine JL.fieldAddr rfl Try.underlying23 rfl sh3 rfl ?_
        refine JL.loadB 4 H rfl sh3 rfl rfl rfl ?_
        refine JL.pure rfl rfl ?_
        refine JL.fieldAddr rfl Try.underlying54 rfl sh23 rfl ?_
        refine JL.fieldAddr rfl Try.underlying23 rfl sh3 rfl ?_
        refine JL.loadB 5 H rfl sh3 rfl rfl rfl ?_
        refine JL.fieldAddr rfl Try.underlying54 rfl sh23 rfl ?_
        refine JL.fieldAddr rfl Try.underlying23 rfl sh3 rfl ?_
        refine JL.loadB 4 H rfl sh3 rfl rfl rfl ?_
        refine JL.pure rfl rfl ?_
        refine JL.build s23 rfl rfl ?_
        refine JL.build s54 rfl rfl ?_
        refine JL.alloc H z54 rfl ?_
        intro b20 w10 H
        refine JL.storeB 0 H rfl rfl sh54 rfl rfl rfl rfl rfl ?_
        intro w11 H
        refine JL.nil ?_
        ((repeat refine Ex.normal_block ?_); refine Ex.next ?_)
        ((repeat refine JC.seq ?_); refine JC.region ?_)
        refine JL.loadB 7 H rfl sh52 rfl rfl rfl ?_
        refine JL.pure rfl rfl ?_
        refine JL.loadB 0 H rfl sh54 rfl rfl rfl ?_
        refine JL.call fb43 rfl rfl (grow_c g lv (.slice aa a.length ac) a (p.wide q) _ (hl.grow H.below) (ha.grow H.below)) ?_
        rintro _ w12 ⟨gz, rfl, K⟩
        have H := H.join K
        refine ⟨_, rfl, ?_⟩
        refine JL.pure rfl rfl ?_
        refine JL.pure rfl rfl ?_
        refine JL.pure rfl rfl ?_
        refine JL.pure rfl rfl ?_
        refine JL.pure rfl rfl ?_
        refine JL.pure rfl rfl ?_
        refine JL.pure rfl rfl ?_
        refine JL.nil ?_
        ((repeat refine Ex.normal_block ?_); refine Ex.next ?_)
        ((repeat refine JC.seq ?_); refine JC.regionTo ([(1, (.slice aa a.length ac)), (5, .pointer (some ⟨b5, 0, none⟩)), (8, .pointer (some ⟨b8, 0, none⟩)), (9, .pointer (some ⟨b9, 0, none⟩)), (11, .bool true), (13, .int .i64 (bothR g a b).2), (14, gx), (15, .bool (growR g a p).2.1), (16, .int .i64 (growR g a p).2.2), (17, gy), (136, .bool false)]) (fun wr => Own w wr [runRow gz (growR g a (p.wide q)).1, blk b20 (.cells ⟨[.int .i64 (min p.Low.X q.Low.X), .int .i64 (min p.Low.Y q.Low.Y), .int .i64 (max p.High.X q.High.X), .int .i64 (max p.High.Y q.High.Y)]⟩ 54 (0, 0)), runRow gy (growR g bo p).1, runRow gx (growR g a p).1, runRow yv bo, blk b35 (.cells ⟨[(.slice aa a.length ac), (.slice ba b.length bc)]⟩ 50 (0, 0)), blk b9 (.cells ⟨[.int .i64 q.Low.X, .int .i64 q.Low.Y, .int .i64 q.High.X, .int .i64 q.High.Y]⟩ 54 (0, 0)), blk b8 (.cells ⟨[.int .i64 p.Low.X, .int .i64 p.Low.Y, .int .i64 p.High.X, .int .i64 p.High.Y]⟩ 54 (0, 0)), blk b5 (.cells ⟨[.int .i64 g.W, .int .i64 g.H, .int .i64 g.S, lv]⟩ 52 (0, 0))]) ?_ ?_)
        ·
          refine JL.pure rfl rfl ?_
          refine JL.pure rfl rfl ?_
          refine JL.callP H fb44 rfl rfl (part_c _ _ (growR g bo p).1 (growR g a p).1 _ (runSl H (j := 2) rfl (by have := growR_len g bo p; omega)) (runSl H (j := 3) rfl (by have := growR_len g a p; omega)) tyl txl) ?_
          intro w13 H _
          refine JL.pure rfl rfl ?_
          refine JL.re 126 rfl (v' := .bool false) (by rw [k4]; rfl) ?_
          refine JL.pure rfl rfl ?_
          refine JL.want rfl rfl ?_
          refine JL.pure rfl rfl ?_
          refine JL.want rfl rfl ?_
          refine JL.pure rfl rfl ?_
          refine JL.want rfl rfl ?_
          refine JL.pure rfl rfl ?_
          refine JL.cases 130 rfl ?_ ?_
          · intro h130
            (try simp only [Bool.not_eq_true', Bool.not_eq_false', decide_eq_true_eq, decide_eq_false_iff_not] at h130)
            have hi : (growR g a (p.wide q)).2.2 = 0 := by simpa using h130
            refine JL.want rfl rfl ?_
            refine JL.pure rfl rfl ?_
            refine JL.want rfl rfl ?_
            refine JL.pure rfl rfl ?_
            refine JL.want rfl rfl ?_
            refine JL.callP H fb44 rfl rfl (part_c _ _ (growR g a p).1 (growR g a (p.wide q)).1 _ (runSl H (j := 3) rfl (by have := growR_len g a p; omega)) (runSl H (j := 0) rfl (by have := growR_len g a (p.wide q); omega)) txl tzl) ?_
            intro w14 H _
            refine JL.want rfl rfl ?_
            refine JL.pure rfl rfl ?_
            refine JL.re 134 rfl (v' := .bool false) (by rw [k5 hi]; rfl) ?_
            refine JL.want rfl rfl ?_
            refine JL.pure rfl rfl ?_
            refine JL.pure rfl rfl ?_
            refine JL.nil ?_
            exact Ex.to ⟨rfl, rfl, rfl, rfl, rfl, rfl, rfl, rfl, rfl, rfl, rfl, trivial⟩ H
          · intro h130
            (try simp only [Bool.not_eq_true', Bool.not_eq_false', decide_eq_true_eq, decide_eq_false_iff_not] at h130)
            
            refine JL.pass rfl rfl rfl rfl ?_
            refine JL.pass rfl rfl rfl rfl ?_
            refine JL.pass rfl rfl rfl rfl ?_
            refine JL.pass rfl rfl rfl rfl ?_
            refine JL.want rfl rfl ?_
            refine JL.pure rfl rfl ?_
            refine JL.pure rfl rfl ?_
            refine JL.nil ?_
            exact Ex.to ⟨rfl, rfl, rfl, rfl, rfl, rfl, rfl, rfl, rfl, rfl, rfl, trivial⟩ H
        · intro wc H
          ((repeat refine Ex.normal_block ?_); refine Ex.next ?_)
          ((repeat refine JC.seq ?_); refine JC.cond rfl (fun h => by cases h) (fun _ => ?_))
          ((repeat refine JC.seq ?_); refine JC.skip ?_)
          ((repeat refine Ex.normal_block ?_); refine Ex.next ?_)
          ((repeat refine JC.seq ?_); refine JC.region ?_)
          refine JL.fieldAddr rfl Try.underlying54 rfl sh23 rfl ?_
          refine JL.fieldAddr rfl Try.underlying23 rfl sh3 rfl ?_
          refine JL.loadB 7 H rfl sh3 rfl rfl rfl ?_
          refine JL.fieldAddr rfl Try.underlying54 rfl sh23 rfl ?_
          refine JL.fieldAddr rfl Try.underlying23 rfl sh3 rfl ?_
          refine JL.loadB 6 H rfl sh3 rfl rfl rfl ?_
          refine JL.pure rfl rfl ?_
          refine JL.fieldAddr rfl Try.underlying54 rfl sh23 rfl ?_
          refine JL.fieldAddr rfl Try.underlying23 rfl sh3 rfl ?_
          refine JL.loadB 7 H rfl sh3 rfl rfl rfl ?_
          refine JL.fieldAddr rfl Try.underlying54 rfl sh23 rfl ?_
          refine JL.fieldAddr rfl Try.underlying23 rfl sh3 rfl ?_
          refine JL.loadB 6 H rfl sh3 rfl rfl rfl ?_
          refine JL.pure rfl rfl ?_
          refine JL.build s23 rfl rfl ?_
          refine JL.fieldAddr rfl Try.underlying54 rfl sh23 rfl ?_
          refine JL.fieldAddr rfl Try.underlying23 rfl sh3 rfl ?_
          refine JL.loadB 7 H rfl sh3 rfl rfl rfl ?_
          refine JL.fieldAddr rfl Try.underlying54 rfl sh23 rfl ?_
          refine JL.fieldAddr rfl Try.underlying23 rfl sh3 rfl ?_
          refine JL.loadB 6 H rfl sh3 rfl rfl rfl ?_
          refine JL.pure rfl rfl ?_
          refine JL.fieldAddr rfl Try.underlying54 rfl sh23 rfl ?_
          refine JL.fieldAddr rfl Try.underlying23 rfl sh3 rfl ?_
          refine JL.loadB 7 H rfl sh3 rfl rfl rfl ?_
          refine JL.fieldAddr rfl Try.underlying54 rfl sh23 rfl ?_
          refine JL.fieldAddr rfl Try.underlying23 rfl sh3 rfl ?_
          refine JL.loadB 6 H rfl sh3 rfl rfl rfl ?_
          refine JL.pure rfl rfl ?_
          refine JL.build s23 rfl rfl ?_
          refine JL.build s54 rfl rfl ?_
          refine JL.alloc H z54 rfl ?_
          intro b24 w15 H
          refine JL.storeB 0 H rfl rfl sh54 rfl rfl rfl rfl rfl ?_
          intro w16 H
          refine JL.nil ?_
          ((repeat refine Ex.normal_block ?_); refine Ex.next ?_)
          ((repeat refine JC.seq ?_); refine JC.region ?_)
          refine JL.loadB 9 H rfl sh52 rfl rfl rfl ?_
          refine JL.pure rfl rfl ?_
          refine JL.loadB 7 H rfl sh54 rfl rfl rfl ?_
          refine JL.call fb43 rfl rfl (grow_c g lv gx (growR g a p).1 q _ (hl.grow H.below) (runSl H (j := 4) rfl (by have := growR_len g a p; omega))) ?_
          rintro _ w17 ⟨gt, rfl, K⟩
          have H := H.join K
          refine ⟨_, rfl, ?_⟩
          refine JL.pure rfl rfl ?_
          refine JL.pure rfl rfl ?_
          refine JL.pure rfl rfl ?_
          refine JL.pure rfl rfl ?_
          refine JL.pure rfl rfl ?_
          refine JL.pure rfl rfl ?_
          refine JL.pure rfl rfl ?_
          refine JL.nil ?_
          ((repeat refine Ex.normal_block ?_); refine Ex.next ?_)
          ((repeat refine JC.seq ?_); refine JC.region ?_)
          refine JL.loadB 10 H rfl sh52 rfl rfl rfl ?_
          refine JL.pure rfl rfl ?_
          refine JL.loadB 1 H rfl sh54 rfl rfl rfl ?_
          refine JL.call fb43 rfl rfl (grow_c g lv (.slice aa a.length ac) a (p.sum q) _ (hl.grow H.below) (ha.grow H.below)) ?_
          rintro _ w18 ⟨go, rfl, K⟩
          have H := H.join K
          refine ⟨_, rfl, ?_⟩
          refine JL.pure rfl rfl ?_
          refine JL.pure rfl rfl ?_
          refine JL.pure rfl rfl ?_
          refine JL.pure rfl rfl ?_
          refine JL.pure rfl rfl ?_
          refine JL.pure rfl rfl ?_
          refine JL.pure rfl rfl ?_
          refine JL.nil ?_
          ((repeat refine Ex.normal_block ?_); refine Ex.next ?_)
          ((repeat refine JC.seq ?_); refine JC.region ?_)
          refine JL.pure rfl rfl ?_
          refine JL.pure rfl rfl ?_
          refine JL.want rfl rfl ?_
          refine JL.pure rfl rfl ?_
          refine JL.want rfl rfl ?_
          refine JL.pure rfl rfl ?_
          refine JL.cases 187 rfl ?_ ?_
          · intro h187
            (try simp only [Bool.not_eq_true', Bool.not_eq_false', decide_eq_true_eq, decide_eq_false_iff_not] at h187)
            refine JL.pass rfl rfl rfl rfl ?_
            refine JL.pass rfl rfl rfl rfl ?_
            refine JL.want rfl rfl ?_
            refine JL.pure rfl rfl ?_
            refine JL.want rfl rfl ?_
            refine JL.pure rfl rfl ?_
            refine JL.pass rfl rfl rfl rfl ?_
            refine JL.pass rfl rfl rfl rfl ?_
            refine JL.want rfl rfl ?_
            refine JL.pure rfl rfl ?_
            refine JL.want rfl rfl ?_
            refine JL.pure rfl rfl ?_
            refine JL.pass rfl rfl rfl rfl ?_
            refine JL.pass rfl rfl rfl rfl ?_
            refine JL.pass rfl rfl rfl rfl ?_
            refine JL.want rfl rfl ?_
            refine JL.pure rfl rfl ?_
            refine JL.pure rfl rfl ?_
            refine JL.pure rfl rfl ?_
            refine JL.nil ?_
            ((repeat refine Ex.normal_block ?_); refine Ex.next ?_)
            ((repeat refine JC.seq ?_); refine JC.ret ?_)
            (repeat (first | refine Ex.ret_then ?_ | refine Ex.ret_block ?_))
            refine Ex.ret1 rfl (.tmp rfl) ⟨?_, H.below⟩
            rfl
          · intro h187
            (try simp only [Bool.not_eq_true', Bool.not_eq_false', decide_eq_true_eq, decide_eq_false_iff_not] at h187)
            refine JL.want rfl rfl ?_
            refine JL.pure rfl rfl ?_
            refine JL.want rfl rfl ?_
            refine JL.pure rfl rfl ?_
            refine JL.want rfl rfl ?_
            refine JL.pure rfl rfl ?_
            refine JL.want rfl rfl ?_
            refine JL.pure rfl rfl ?_
            refine JL.cases 191 rfl ?_ ?_
            · intro h191
              (try simp only [Bool.not_eq_true', Bool.not_eq_false', decide_eq_true_eq, decide_eq_false_iff_not] at h191)
              refine JL.pass rfl rfl rfl rfl ?_
              refine JL.pass rfl rfl rfl rfl ?_
              refine JL.want rfl rfl ?_
              refine JL.pure rfl rfl ?_
              refine JL.want rfl rfl ?_
              refine JL.pure rfl rfl ?_
              refine JL.pass rfl rfl rfl rfl ?_
              refine JL.pass rfl rfl rfl rfl ?_
              refine JL.pass rfl rfl rfl rfl ?_
              refine JL.want rfl rfl ?_
              refine JL.pure rfl rfl ?_
              refine JL.pure rfl rfl ?_
              refine JL.pure rfl rfl ?_
              refine JL.nil ?_
              ((repeat refine Ex.normal_block ?_); refine Ex.next ?_)
              ((repeat refine JC.seq ?_); refine JC.ret ?_)
              (repeat (first | refine Ex.ret_then ?_ | refine Ex.ret_block ?_))
              refine Ex.ret1 rfl (.tmp rfl) ⟨?_, H.below⟩
              rfl
            · intro h191
              (try simp only [Bool.not_eq_true', Bool.not_eq_false', decide_eq_true_eq, decide_eq_false_iff_not] at h191)
              refine JL.want rfl rfl ?_
              refine JL.pure rfl rfl ?_
              refine JL.want rfl rfl ?_
              refine JL.pure rfl rfl ?_
              refine JL.want rfl rfl ?_
              refine JL.pure rfl rfl ?_
              refine JL.want rfl rfl ?_
              refine JL.pure rfl rfl ?_
              refine JL.cases 195 rfl ?_ ?_
              · intro h195
                (try simp only [Bool.not_eq_true', Bool.not_eq_false', decide_eq_true_eq, decide_eq_false_iff_not] at h195)
                refine JL.pass rfl rfl rfl rfl ?_
                refine JL.pass rfl rfl rfl rfl ?_
                refine JL.pass rfl rfl rfl rfl ?_
                refine JL.want rfl rfl ?_
                refine JL.pure rfl rfl ?_
                refine JL.pure rfl rfl ?_
                refine JL.pure rfl rfl ?_
                refine JL.nil ?_
                ((repeat refine Ex.normal_block ?_); refine Ex.next ?_)
                ((repeat refine JC.seq ?_); refine JC.ret ?_)
                (repeat (first | refine Ex.ret_then ?_ | refine Ex.ret_block ?_))
                refine Ex.ret1 rfl (.tmp rfl) ⟨?_, H.below⟩
                rfl
              · intro h195
                (try simp only [Bool.not_eq_true', Bool.not_eq_false', decide_eq_true_eq, decide_eq_false_iff_not] at h195)
                refine JL.want rfl rfl ?_
                refine JL.pure rfl rfl ?_
                refine JL.want rfl rfl ?_
                refine JL.pure rfl rfl ?_
                refine JL.want rfl rfl ?_
                refine JL.callP H fb44 rfl rfl (part_c _ _ (growR g a (p.sum q)).1 (growR g (growR g a p).1 q).1 _ (runSl H (j := 0) rfl (by have := growR_len g a (p.sum q); omega)) (runSl H (j := 1) rfl (by have := growR_len g (growR g a p).1 q; omega)) tol ttl) ?_
                intro w19 H _
                refine JL.want rfl rfl ?_
                refine JL.pure rfl rfl ?_
                refine JL.pure rfl rfl ?_
                refine JL.pure rfl rfl ?_
                refine JL.nil ?_
                ((repeat refine Ex.normal_block ?_); refine Ex.next ?_)
                ((repeat refine JC.seq ?_); refine JC.ret ?_)
                (repeat (first | refine Ex.ret_then ?_ | refine Ex.ret_block ?_))
                refine Ex.ret1 rfl (.tmp rfl) ⟨?_, H.below⟩
                have : partB (growR g a (p.sum q)).1 (growR g (growR g a p).1 q).1 = true := by
                  rcases k6 with h | h | h | h
                  · rw [h187] at h; cases h
                  · exact absurd (by simpa using h191) h
                  · exact absurd (by simpa using h195) h
                  · exact h
                rw [this]
end Go.J
