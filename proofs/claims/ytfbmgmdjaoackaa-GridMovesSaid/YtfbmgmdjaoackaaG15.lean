/-
  Lemmas for the statements of this seat; no statement is proved here. No condition.
-/
import Derived.Test.YtfbmgmdjaoackaaG14
namespace Go.J
open Go.RowKit Go.Proofs
set_option maxRecDepth 8000
set_option linter.unusedSimpArgs false
set_option linter.unusedVariables false
def oneR (x y : Int) : List Run := [⟨y, x, w64 (x + 1)⟩]
theorem one_c (x y : Int) (w : World) : Calls Try.prog 45 #[.int .i64 x, .int .i64 y] w (fun e w' => ∃ v, e = .returned v ∧ Own w w' [runRow v (oneR x y)]) := by
  refine calls_J (args := [.int .i64 x, .int .i64 y]) Try.func45 rfl Try.ntmps45 rfl ?_
  have H := Own.start w
  ((repeat refine JC.seq ?_); refine JC.region ?_)
  refine JL.pure rfl rfl ?_
  refine JL.nil ?_
  ((repeat refine Ex.normal_block ?_); refine Ex.next ?_)
  ((repeat refine JC.seq ?_); refine JC.region ?_)
  refine JL.pure rfl rfl ?_
  refine JL.pure rfl rfl ?_
  refine JL.pure rfl rfl ?_
  refine JL.pure rfl rfl ?_
  refine JL.build s140 rfl rfl ?_
  refine JL.buildSlice H Try.underlying50 sh140 z140 rfl rfl rfl rfl rfl ?_
  intro b10 w1 H
  refine JL.pure rfl rfl ?_
  refine JL.nil ?_
  ((repeat refine Ex.normal_block ?_); refine Ex.next ?_)
  ((repeat refine JC.seq ?_); refine JC.ret ?_)
  (repeat (first | refine Ex.ret_then ?_ | refine Ex.ret_block ?_))
  refine Ex.ret1 rfl (.tmp rfl) ⟨_, rfl, ?_⟩
  exact H.blkRow (j := 0) (enc := Run.cs) rfl (oneR x y) rfl (fun _ => rfl) (by simp [oneR])
def littleG : Grid := ⟨4, 3, 10, [⟨0, 0, 2⟩]⟩
theorem little_c (w : World) : Calls Try.prog 106 #[] w (fun e w' => ∃ lv, e = .returned (littleG.ev lv) ∧ Own w w' [runRow lv littleG.land]) := by
  refine calls_J (args := []) Try.func106 rfl Try.ntmps106 rfl ?_
  have H := Own.start w
  ((repeat refine JC.seq ?_); refine JC.region ?_)
  refine JL.alloc H z52 rfl ?_
  intro b0 w1 H
  refine JL.nil ?_
  ((repeat refine Ex.normal_block ?_); refine Ex.next ?_)
  ((repeat refine JC.seq ?_); refine JC.region ?_)
  refine JL.build s140 rfl rfl ?_
  refine JL.buildSlice H Try.underlying50 sh140 z140 rfl rfl rfl rfl rfl ?_
  intro b2 w2 H
  refine JL.build s52 rfl rfl ?_
  refine JL.storeB 1 H rfl rfl sh52 rfl rfl rfl rfl rfl ?_
  intro w3 H
  refine JL.nil ?_
  ((repeat refine Ex.normal_block ?_); refine Ex.next ?_)
  ((repeat refine JC.seq ?_); refine JC.ret ?_)
  (repeat (first | refine Ex.ret_then ?_ | refine Ex.ret_block ?_))
  refine Ex.ret1 rfl (.cell rfl sh52 (LdAt.of_block (H.get (i := 1) rfl).2 rfl)) ⟨_, rfl, ?_⟩
  exact (H.blkRow (j := 0) (enc := Run.cs) rfl littleG.land rfl (fun _ => rfl) (by simp [littleG])).drop 1
theorem same_c (av bv : Value) (a b : List Run) (w : World) (ha : SlR w av a) (hb : SlR w bv b) : Pur Try.prog 67 #[av, bv] w (.bool (decide (a = b))) := by
  obtain ⟨aa, ac, rfl⟩ := ha.len
  obtain ⟨ba, bc, rfl⟩ := hb.len
  refine pur_J (args := [.slice aa a.length ac, .slice ba b.length bc]) Try.func67 rfl Try.ntmps67 rfl ?_
  have H := Own.start w
  ((repeat refine JC.seq ?_); refine JC.region ?_)
  refine JL.pure rfl rfl ?_
  refine JL.nil ?_
  ((repeat refine Ex.normal_block ?_); refine Ex.next ?_)
  ((repeat refine JC.seq ?_); refine JC.region ?_)
  refine JL.pure rfl rfl ?_
  refine JL.len rfl Try.underlying50 rfl ?_
  refine JL.pure rfl rfl ?_
  refine JL.len rfl Try.underlying50 rfl ?_
  refine JL.pure rfl rfl ?_
  refine JL.nil ?_
  ((repeat refine Ex.normal_block ?_); refine Ex.next ?_)
  ((repeat refine JC.seq ?_); refine JC.cond rfl ?_ ?_)
  · intro h10
    (try simp only [Bool.not_eq_true', Bool.not_eq_false', decide_eq_true_eq, decide_eq_false_iff_not] at h10)
    
    ((repeat refine JC.seq ?_); refine JC.region ?_)
    refine JL.pure rfl rfl ?_
    refine JL.nil ?_
    ((repeat refine Ex.normal_block ?_); refine Ex.next ?_)
    ((repeat refine JC.seq ?_); refine JC.ret ?_)
    (repeat (first | refine Ex.ret_then ?_ | refine Ex.ret_block ?_))
    refine Ex.ret1 rfl (.tmp rfl) ⟨?_, H.below⟩
    rw [decide_eq_false]
    rintro rfl
    exact h10 rfl
  · intro h10
    (try simp only [Bool.not_eq_true', Bool.not_eq_false', decide_eq_true_eq, decide_eq_false_iff_not] at h10)
    have hlen : a.length = b.length := by omega
    have hal : a.length ≤ 9223372036854775807 := ha.1
    ((repeat refine JC.seq ?_); refine JC.skip ?_)
    ((repeat refine Ex.normal_block ?_); refine Ex.next ?_)
    ((repeat refine JC.seq ?_); refine JC.region ?_)
    refine JL.pure rfl rfl ?_
    refine JL.nil ?_
    ((repeat refine Ex.normal_block ?_); refine Ex.next ?_)
    ((repeat refine JC.seq ?_); refine JC.block ?_)
    ((repeat refine JC.seq ?_); refine JC.loop (ι := Nat) (fun k => [(0, .slice aa a.length ac), (1, .slice ba b.length bc), (5, .int .i64 k)])
      (fun k wr => k ≤ a.length ∧ (∀ i, i < k → a[i]? = b[i]?) ∧ Own w wr []) (fun k => a.length - k) 0 ?_ ?_ ?_)
    · exact ⟨rfl, rfl, rfl, trivial⟩
    · exact ⟨Nat.zero_le _, fun i hi => by omega, H⟩
    · rintro k wr ⟨hk, heq, H⟩
      ((repeat refine JC.seq ?_); refine JC.region ?_)
      refine JL.pure rfl rfl ?_
      refine JL.pure rfl rfl ?_
      refine JL.len rfl Try.underlying50 rfl ?_
      refine JL.pure rfl rfl ?_
      refine JL.nil ?_
      ((repeat refine Ex.normal_block ?_); refine Ex.next ?_)
      ((repeat refine JC.seq ?_); refine JC.cond rfl ?_ ?_)
      · intro h14
        (try simp only [Bool.not_eq_true', Bool.not_eq_false', decide_eq_true_eq, decide_eq_false_iff_not] at h14)
        have h14 : k < a.length := by omega
        have h14b : k < b.length := by omega
        have hx : a[k]? = some a[k] := by simp [h14]
        have hy : b[k]? = some b[k] := by simp [h14b]
        obtain ⟨_, _, _, he1, ha'⟩ := id ha
        cases he1
        obtain ⟨β, off, hra, hβ, hc⟩ := ha'.resolve_left (by rintro rfl; simp at h14)
        obtain ⟨_, _, _, he1, hb'⟩ := id hb
        cases he1
        obtain ⟨γ, ofg, hrb, hγ, hd⟩ := hb'.resolve_left (by rintro rfl; simp at h14b)
        ((repeat refine JC.seq ?_); refine JC.skip ?_)
        ((repeat refine Ex.normal_block ?_); refine Ex.next ?_)
        ((repeat refine JC.seq ?_); refine JC.block ?_)
        ((repeat refine JC.seq ?_); refine JC.draw 9 H mixed (by kernel_rfl) rfl ?_)
        refine JD.pure rfl rfl ?_
        refine JD.pure rfl rfl ?_
        refine JD.indexS k (congrArg (fun z => some (Value.slice z a.length ac)) hra) rfl Try.underlying50 sh140 rfl h14 rfl ?_
        refine JD.load rfl sh140 (fun w hw => (hc k _ hx).grow hβ hw.below) rfl ?_
        refine JD.pure rfl rfl ?_
        refine JD.pure rfl rfl ?_
        refine JD.indexS k (congrArg (fun z => some (Value.slice z b.length bc)) hrb) rfl Try.underlying50 sh140 rfl h14b rfl ?_
        refine JD.load rfl sh140 (fun w hw => (hd k _ hy).grow hγ hw.below) rfl ?_
        refine JD.eqs rfl rfl (eq140 _ _ _ _ _ _).2 rfl ?_
        refine JD.nil ?_
        intro w1 H
        show JL _ _ _ _ _ _ _
        refine JL.nil ?_
        ((repeat refine Ex.normal_block ?_); refine Ex.next ?_)
        ((repeat refine JC.seq ?_); refine JC.cond rfl ?_ ?_)
        · intro h25
          (try simp only [Bool.not_eq_true', Bool.not_eq_false', decide_eq_true_eq, decide_eq_false_iff_not] at h25)
          ((repeat refine JC.seq ?_); refine JC.region ?_)
          refine JL.pure rfl rfl ?_
          refine JL.nil ?_
          ((repeat refine Ex.normal_block ?_); refine Ex.next ?_)
          ((repeat refine JC.seq ?_); refine JC.ret ?_)
          (repeat (first | refine Ex.ret_then ?_ | refine Ex.ret_block ?_))
          refine Ex.ret1 rfl (.tmp rfl) ⟨?_, H.below⟩
          rw [decide_eq_false]
          rintro rfl
          simp at h25
        · intro h25
          (try simp only [Bool.not_eq_true', Bool.not_eq_false', decide_eq_true_eq, decide_eq_false_iff_not] at h25)
          ((repeat refine JC.seq ?_); refine JC.skip ?_)
          ((repeat refine Ex.normal_block ?_); refine Ex.next ?_)
          ((repeat refine JC.seq ?_); refine JC.region ?_)
          refine JL.pure rfl rfl ?_
          refine JL.arith rfl (by unfold In64; omega) rfl ?_
          refine JL.pure rfl rfl ?_
          refine JL.nil ?_
          (repeat refine Ex.normal_block ?_)
          have hxy : a[k] = b[k] := by
            cases hp : a[k] with
            | mk p q r => cases hq : b[k] with
              | mk p' q' r' => rw [hp, hq] at h25; simp at h25; simp [h25]
          refine Ex.again (k + 1) ⟨rfl, rfl, rfl, trivial⟩ ⟨h14, fun i hi => ?_, H⟩ (by omega)
          by_cases hik : i = k
          · subst hik; rw [hx, hy, hxy]
          · exact heq i (by omega)
      · intro h14
        (try simp only [Bool.not_eq_true', Bool.not_eq_false', decide_eq_true_eq, decide_eq_false_iff_not] at h14)
        
        ((repeat refine JC.seq ?_); refine JC.exit ?_)
        (repeat (first | refine Ex.exit_then ?_ | refine Ex.exit_miss (by decide) ?_))
        refine Ex.exit_hit ?_
        ((repeat refine Ex.normal_block ?_); refine Ex.next ?_)
        ((repeat refine JC.seq ?_); refine JC.region ?_)
        refine JL.pure rfl rfl ?_
        refine JL.nil ?_
        ((repeat refine Ex.normal_block ?_); refine Ex.next ?_)
        ((repeat refine JC.seq ?_); refine JC.ret ?_)
        (repeat (first | refine Ex.ret_then ?_ | refine Ex.ret_block ?_))
        refine Ex.ret1 rfl (.tmp rfl) ⟨?_, H.below⟩
        rw [decide_eq_true]
        apply List.ext_getElem?
        intro i
        rcases Nat.lt_or_ge i k with hi | hi
        · exact heq i hi
        · rw [List.getElem?_eq_none (by omega), List.getElem?_eq_none (by omega)]
def backR (g : Grid) (r : List Run) (p : Push) : List Run × Int := if p.ok then ((growR g r ⟨⟨-p.High.X, -p.High.Y⟩, ⟨-p.Low.X, -p.Low.Y⟩⟩).1, (growR g r ⟨⟨-p.High.X, -p.High.Y⟩, ⟨-p.Low.X, -p.Low.Y⟩⟩).2.2) else ([], 2)
theorem back_c (g : Grid) (lv rv : Value) (r : List Run) (p : Push) (w : World) (hl : SlR w lv g.land) (hr : SlR w rv r) : Calls Try.prog 46 #[g.ev lv, rv, p.ev] w (fun e w' => ResR w w' [] (backR g r p) e) := by
  refine calls_J (args := [g.ev lv, rv, p.ev]) Try.func46 rfl Try.ntmps46 rfl ?_
  have H := Own.start w
  ((repeat refine JC.seq ?_); refine JC.region ?_)
  refine JL.box H rfl rfl rfl ?_
  intro b3 w1 H
  refine JL.box H rfl rfl rfl ?_
  intro b5 w2 H
  refine JL.pure rfl rfl ?_
  refine JL.pure rfl rfl ?_
  refine JL.nil ?_
  ((repeat refine Ex.normal_block ?_); refine Ex.next ?_)
  ((repeat refine JC.seq ?_); refine JC.region ?_)
  refine JL.loadB 0 H rfl sh54 rfl rfl rfl ?_
  refine JL.callP H fb132 rfl rfl (pushed_c p _) ?_
  intro w3 H _
  refine JL.pure rfl rfl ?_
  refine JL.nil ?_
  ((repeat refine Ex.normal_block ?_); refine Ex.next ?_)
  ((repeat refine JC.seq ?_); refine JC.cond rfl ?_ ?_)
  · intro h13
    (try simp only [Bool.not_eq_true', Bool.not_eq_false', decide_eq_true_eq, decide_eq_false_iff_not] at h13)
    have hpok : p.ok = false := by simpa using h13
    ((repeat refine JC.seq ?_); refine JC.region ?_)
    refine JL.pure rfl rfl ?_
    refine JL.pure rfl rfl ?_
    refine JL.nil ?_
    ((repeat refine Ex.normal_block ?_); refine Ex.next ?_)
    ((repeat refine JC.seq ?_); refine JC.ret ?_)
    (repeat (first | refine Ex.ret_then ?_ | refine Ex.ret_block ?_))
    refine Ex.ret2 rfl (.tmp rfl) (.tmp rfl) ?_
    unfold backR ResR; rw [hpok]
    exact ⟨_, rfl, ((H.drop 0).drop 0).nilRow 140 3⟩
  · intro h13
    (try simp only [Bool.not_eq_true', Bool.not_eq_false', decide_eq_true_eq, decide_eq_false_iff_not] at h13)
    have hpok : p.ok = true := by simpa using h13
    have hpb : (-16777216 ≤ p.Low.X ∧ p.Low.X ≤ p.High.X) ∧ (-16777216 ≤ p.Low.Y ∧ p.Low.Y ≤ p.High.Y) ∧ max p.High.X p.High.Y ≤ 16777216 := by
      have := hpok
      unfold Push.ok at this
      simpa [and_assoc] using this
    ((repeat refine JC.seq ?_); refine JC.skip ?_)
    ((repeat refine Ex.normal_block ?_); refine Ex.next ?_)
    ((repeat refine JC.seq ?_); refine JC.region ?_)
    refine JL.loadB 1 H rfl sh52 rfl rfl rfl ?_
    refine JL.pure rfl rfl ?_
    refine JL.fieldAddr rfl Try.underlying54 rfl sh23 rfl ?_
    refine JL.fieldAddr rfl Try.underlying23 rfl sh3 rfl ?_
    refine JL.loadB 0 H rfl sh3 rfl rfl rfl ?_
    refine JL.neg rfl (by unfold In64; omega) rfl ?_
    refine JL.fieldAddr rfl Try.underlying54 rfl sh23 rfl ?_
    refine JL.fieldAddr rfl Try.underlying23 rfl sh3 rfl ?_
    refine JL.loadB 0 H rfl sh3 rfl rfl rfl ?_
    refine JL.neg rfl (by unfold In64; omega) rfl ?_
    refine JL.build s23 rfl rfl ?_
    refine JL.fieldAddr rfl Try.underlying54 rfl sh23 rfl ?_
    refine JL.fieldAddr rfl Try.underlying23 rfl sh3 rfl ?_
    refine JL.loadB 0 H rfl sh3 rfl rfl rfl ?_
    refine JL.neg rfl (by unfold In64; omega) rfl ?_
    refine JL.fieldAddr rfl Try.underlying54 rfl sh23 rfl ?_
    refine JL.fieldAddr rfl Try.underlying23 rfl sh3 rfl ?_
    refine JL.loadB 0 H rfl sh3 rfl rfl rfl ?_
    refine JL.neg rfl (by unfold In64; omega) rfl ?_
    refine JL.build s23 rfl rfl ?_
    refine JL.build s54 rfl rfl ?_
    refine JL.call fb43 rfl rfl (grow_c g lv rv r ⟨⟨-p.High.X, -p.High.Y⟩, ⟨-p.Low.X, -p.Low.Y⟩⟩ _ (hl.grow H.below) (hr.grow H.below)) ?_
    rintro _ w4 ⟨ov, rfl, K⟩
    have H := H.join K
    refine ⟨_, rfl, ?_⟩
    refine JL.pure rfl rfl ?_
    refine JL.pure rfl rfl ?_
    refine JL.pure rfl rfl ?_
    refine JL.pure rfl rfl ?_
    refine JL.pure rfl rfl ?_
    refine JL.pure rfl rfl ?_
    refine JL.pure rfl rfl ?_
    refine JL.nil ?_
    ((repeat refine Ex.normal_block ?_); refine Ex.next ?_)
    ((repeat refine JC.seq ?_); refine JC.region ?_)
    refine JL.pure rfl rfl ?_
    refine JL.pure rfl rfl ?_
    refine JL.pure rfl rfl ?_
    refine JL.pure rfl rfl ?_
    refine JL.nil ?_
    ((repeat refine Ex.normal_block ?_); refine Ex.next ?_)
    ((repeat refine JC.seq ?_); refine JC.ret ?_)
    (repeat (first | refine Ex.ret_then ?_ | refine Ex.ret_block ?_))
    refine Ex.ret2 rfl (.tmp rfl) (.tmp rfl) ?_
    unfold backR ResR; rw [hpok]
    exact ⟨_, rfl, (H.drop 1).drop 1⟩
def reachB (a b size low high : Int) : Bool := decide (a + low ≤ b + size - 1) && decide (a + size - 1 + high ≥ b)
theorem reach_c (a b size low high : Int) (w : World) (ha : -1000000000000 ≤ a ∧ a ≤ 1000000000000) (hb : -1000000000000 ≤ b ∧ b ≤ 1000000000000) (hs : -1000000000000 ≤ size ∧ size ≤ 1000000000000) (hl : -1000000000000 ≤ low ∧ low ≤ 1000000000000)
    (hh : -1000000000000 ≤ high ∧ high ≤ 1000000000000) : Pur Try.prog 47 #[.int .i64 a, .int .i64 b, .int .i64 size, .int .i64 low, .int .i64 high] w (.bool (reachB a b size low high)) := by
  refine pur_J (args := [.int .i64 a, .int .i64 b, .int .i64 size, .int .i64 low, .int .i64 high]) Try.func47 rfl Try.ntmps47 rfl ?_
  have H := Own.start w
  ((repeat refine JC.seq ?_); refine JC.region ?_)
  refine JL.pure rfl rfl ?_
  refine JL.nil ?_
  ((repeat refine Ex.normal_block ?_); refine Ex.next ?_)
  ((repeat refine JC.seq ?_); refine JC.region ?_)
  refine JL.pure rfl rfl ?_
  refine JL.pure rfl rfl ?_
  refine JL.arith rfl (by unfold In64; omega) rfl ?_
  refine JL.pure rfl rfl ?_
  refine JL.pure rfl rfl ?_
  refine JL.arith rfl (by unfold In64; omega) rfl ?_
  refine JL.arith rfl (by unfold In64; omega) rfl ?_
  refine JL.pure rfl rfl ?_
  refine JL.pure rfl rfl ?_
  refine JL.cases 19 rfl ?_ ?_
  · intro h19
    (try simp only [Bool.not_eq_true', Bool.not_eq_false', decide_eq_true_eq, decide_eq_false_iff_not] at h19)
    refine JL.want rfl rfl ?_
    refine JL.pure rfl rfl ?_
    refine JL.want rfl rfl ?_
    refine JL.pure rfl rfl ?_
    refine JL.want rfl rfl ?_
    refine JL.arith rfl (by unfold In64; omega) rfl ?_
    refine JL.want rfl rfl ?_
    refine JL.arith rfl (by unfold In64; omega) rfl ?_
    refine JL.want rfl rfl ?_
    refine JL.pure rfl rfl ?_
    refine JL.want rfl rfl ?_
    refine JL.arith rfl (by unfold In64; omega) rfl ?_
    refine JL.want rfl rfl ?_
    refine JL.pure rfl rfl ?_
    refine JL.want rfl rfl ?_
    refine JL.pure rfl rfl ?_
    refine JL.pure rfl rfl ?_
    refine JL.pure rfl rfl ?_
    refine JL.nil ?_
    ((repeat refine Ex.normal_block ?_); refine Ex.next ?_)
    ((repeat refine JC.seq ?_); refine JC.ret ?_)
    (repeat (first | refine Ex.ret_then ?_ | refine Ex.ret_block ?_))
    refine Ex.ret1 rfl (.tmp rfl) ⟨?_, H.below⟩
    unfold reachB
    simp [*]
  · intro h19
    (try simp only [Bool.not_eq_true', Bool.not_eq_false', decide_eq_true_eq, decide_eq_false_iff_not] at h19)
    refine JL.pass rfl rfl rfl rfl ?_
    refine JL.pass rfl rfl rfl rfl ?_
    refine JL.pass rfl rfl rfl rfl ?_
    refine JL.pass rfl rfl rfl rfl ?_
    refine JL.pass rfl rfl rfl rfl ?_
    refine JL.pass rfl rfl rfl rfl ?_
    refine JL.pass rfl rfl rfl rfl ?_
    refine JL.pass rfl rfl rfl rfl ?_
    refine JL.pure rfl rfl ?_
    refine JL.pure rfl rfl ?_
    refine JL.nil ?_
    ((repeat refine Ex.normal_block ?_); refine Ex.next ?_)
    ((repeat refine JC.seq ?_); refine JC.ret ?_)
    (repeat (first | refine Ex.ret_then ?_ | refine Ex.ret_block ?_))
    refine Ex.ret1 rfl (.tmp rfl) ⟨?_, H.below⟩
    unfold reachB
    simp [*]
end Go.J
