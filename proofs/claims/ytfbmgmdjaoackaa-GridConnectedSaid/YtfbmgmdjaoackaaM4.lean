/-
  Lemmas for the statements of this seat; no statement is proved here. No condition.
-/
import Derived.Test.YtfbmgmdjaoackaaM3
namespace Go.J
open Go.RowKit Go.Proofs
set_option maxRecDepth 8000
set_option linter.unusedSimpArgs false
set_option linter.unusedVariables false
def oneR (x y : Int) : List Run := [⟨y, x, w64 (x + 1)⟩]
theorem one_c (x y : Int) (w : World) : Calls Try.prog 45 #[.int .i64 x, .int .i64 y] w (fun e w' => ∃ v, e = .returned v ∧ Own w w' [runRow v (oneR x y)]) := by
  refine calls_J (args := [.int .i64 x, .int .i64 y]) Try.func45 rfl Try.ntmps45 rfl ?_
  have H := Own.start w
  ((repeat refine JC.seq ?_); refine JC.region ?_)
  refine JL.pure rfl rfl ?_
  refine JL.nil ?_
  ((repeat refine Ex.normal_block ?_); refine Ex.next ?_)
  ((repeat refine JC.seq ?_); refine JC.region ?_)
  refine JL.pure rfl rfl ?_
  refine JL.pure rfl rfl ?_
  refine JL.pure rfl rfl ?_
  refine JL.pure rfl rfl ?_
  refine JL.build s140 rfl rfl ?_
  refine JL.buildSlice H Try.underlying50 sh140 z140 rfl rfl rfl rfl rfl ?_
  intro b10 w1 H
  refine JL.pure rfl rfl ?_
  refine JL.nil ?_
  ((repeat refine Ex.normal_block ?_); refine Ex.next ?_)
  ((repeat refine JC.seq ?_); refine JC.ret ?_)
  (repeat (first | refine Ex.ret_then ?_ | refine Ex.ret_block ?_))
  refine Ex.ret1 rfl (.tmp rfl) ⟨_, rfl, ?_⟩
  exact H.blkRow (j := 0) (enc := Run.cs) rfl (oneR x y) rfl (fun _ => rfl) (by simp [oneR])
def littleG : Grid := ⟨4, 3, 10, [⟨0, 0, 2⟩]⟩
theorem little_c (w : World) : Calls Try.prog 106 #[] w (fun e w' => ∃ lv, e = .returned (littleG.ev lv) ∧ Own w w' [runRow lv littleG.land]) := by
  refine calls_J (args := []) Try.func106 rfl Try.ntmps106 rfl ?_
  have H := Own.start w
  ((repeat refine JC.seq ?_); refine JC.region ?_)
  refine JL.alloc H z52 rfl ?_
  intro b0 w1 H
  refine JL.nil ?_
  ((repeat refine Ex.normal_block ?_); refine Ex.next ?_)
  ((repeat refine JC.seq ?_); refine JC.region ?_)
  refine JL.build s140 rfl rfl ?_
  refine JL.buildSlice H Try.underlying50 sh140 z140 rfl rfl rfl rfl rfl ?_
  intro b2 w2 H
  refine JL.build s52 rfl rfl ?_
  refine JL.storeB 1 H rfl rfl sh52 rfl rfl rfl rfl rfl ?_
  intro w3 H
  refine JL.nil ?_
  ((repeat refine Ex.normal_block ?_); refine Ex.next ?_)
  ((repeat refine JC.seq ?_); refine JC.ret ?_)
  (repeat (first | refine Ex.ret_then ?_ | refine Ex.ret_block ?_))
  refine Ex.ret1 rfl (.cell rfl sh52 (LdAt.of_block (H.get (i := 1) rfl).2 rfl)) ⟨_, rfl, ?_⟩
  exact (H.blkRow (j := 0) (enc := Run.cs) rfl littleG.land rfl (fun _ => rfl) (by simp [littleG])).drop 1
theorem same_c (av bv : Value) (a b : List Run) (w : World) (ha : SlR w av a) (hb : SlR w bv b) : Pur Try.prog 67 #[av, bv] w (.bool (decide (a = b))) := by
  obtain ⟨aa, ac, rfl⟩ := ha.len
  obtain ⟨ba, bc, rfl⟩ := hb.len
  refine pur_J (args := [.slice aa a.length ac, .slice ba b.length bc]) Try.func67 rfl Try.ntmps67 rfl ?_
  have H := Own.start w
  ((repeat refine JC.seq ?_); refine JC.region ?_)
  refine JL.pure rfl rfl ?_
  refine JL.nil ?_
  ((repeat refine Ex.normal_block ?_); refine Ex.next ?_)
  ((repeat refine JC.seq ?_); refine JC.region ?_)
  refine JL.pure rfl rfl ?_
  refine JL.len rfl Try.underlying50 rfl ?_
  refine JL.pure rfl rfl ?_
  refine JL.len rfl Try.underlying50 rfl ?_
  refine JL.pure rfl rfl ?_
  refine JL.nil ?_
  ((repeat refine Ex.normal_block ?_); refine Ex.next ?_)
  ((repeat refine JC.seq ?_); refine JC.cond rfl ?_ ?_)
  · intro h10
    (try simp only [Bool.not_eq_true', Bool.not_eq_false', decide_eq_true_eq, decide_eq_false_iff_not] at h10)
    
    ((repeat refine JC.seq ?_); refine JC.region ?_)
    refine JL.pure rfl rfl ?_
    refine JL.nil ?_
    ((repeat refine Ex.normal_block ?_); refine Ex.next ?_)
    ((repeat refine JC.seq ?_); refine JC.ret ?_)
    (repeat (first | refine Ex.ret_then ?_ | refine Ex.ret_block ?_))
    refine Ex.ret1 rfl (.tmp rfl) ⟨?_, H.below⟩
    rw [decide_eq_false]
    rintro rfl
    exact h10 rfl
  · intro h10
    (try simp only [Bool.not_eq_true', Bool.not_eq_false', decide_eq_true_eq, decide_eq_false_iff_not] at h10)
    have hlen : a.length = b.length := by omega
    have hal : a.length ≤ 9223372036854775807 := ha.1
    ((repeat refine JC.seq ?_); refine JC.skip ?_)
    ((repeat refine Ex.normal_block ?_); refine Ex.next ?_)
    ((repeat refine JC.seq ?_); refine JC.region ?_)
    refine JL.pure rfl rfl ?_
    refine JL.nil ?_
    ((repeat refine Ex.normal_block ?_); refine Ex.next ?_)
    ((repeat refine JC.seq ?_); refine JC.block ?_)
    ((repeat refine JC.seq ?_); refine JC.loop (ι := Nat) (fun k => [(0, .slice aa a.length ac), (1, .slice ba b.length bc), (5, .int .i64 k)])
      (fun k wr => k ≤ a.length ∧ (∀ i, i < k → a[i]? = b[i]?) ∧ Own w wr []) (fun k => a.length - k) 0 ?_ ?_ ?_)
    · exact ⟨rfl, rfl, rfl, trivial⟩
    · exact ⟨Nat.zero_le _, fun i hi => by omega, H⟩
    · rintro k wr ⟨hk, heq, H⟩
      ((repeat refine JC.seq ?_); refine JC.region ?_)
      refine JL.pure rfl rfl ?_
      refine JL.pure rfl rfl ?_
      refine JL.len rfl Try.underlying50 rfl ?_
      refine JL.pure rfl rfl ?_
      refine JL.nil ?_
      ((repeat refine Ex.normal_block ?_); refine Ex.next ?_)
      ((repeat refine JC.seq ?_); refine JC.cond rfl ?_ ?_)
      · intro h14
        (try simp only [Bool.not_eq_true', Bool.not_eq_false', decide_eq_true_eq, decide_eq_false_iff_not] at h14)
        have h14 : k < a.length := by omega
        have h14b : k < b.length := by omega
        have hx : a[k]? = some a[k] := by simp [h14]
        have hy : b[k]? = some b[k] := by simp [h14b]
        obtain ⟨_, _, _, he1, ha'⟩ := id ha
        cases he1
        obtain ⟨β, off, hra, hβ, hc⟩ := ha'.resolve_left (by rintro rfl; simp at h14)
        obtain ⟨_, _, _, he1, hb'⟩ := id hb
        cases he1
        obtain ⟨γ, ofg, hrb, hγ, hd⟩ := hb'.resolve_left (by rintro rfl; simp at h14b)
        ((repeat refine JC.seq ?_); refine JC.skip ?_)
        ((repeat refine Ex.normal_block ?_); refine Ex.next ?_)
        ((repeat refine JC.seq ?_); refine JC.block ?_)
        ((repeat refine JC.seq ?_); refine JC.draw 9 H mixed (by kernel_rfl) rfl ?_)
        refine JD.pure rfl rfl ?_
        refine JD.pure rfl rfl ?_
        refine JD.indexS k (congrArg (fun z => some (Value.slice z a.length ac)) hra) rfl Try.underlying50 sh140 rfl h14 rfl ?_
        refine JD.load rfl sh140 (fun w hw => (hc k _ hx).grow hβ hw.below) rfl ?_
        refine JD.pure rfl rfl ?_
        refine JD.pure rfl rfl ?_
        refine JD.indexS k (congrArg (fun z => some (Value.slice z b.length bc)) hrb) rfl Try.underlying50 sh140 rfl h14b rfl ?_
        refine JD.load rfl sh140 (fun w hw => (hd k _ hy).grow hγ hw.below) rfl ?_
        refine JD.eqs rfl rfl (eq140 _ _ _ _ _ _).2 rfl ?_
        refine JD.nil ?_
        intro w1 H
        show JL _ _ _ _ _ _ _
        refine JL.nil ?_
        ((repeat refine Ex.normal_block ?_); refine Ex.next ?_)
        ((repeat refine JC.seq ?_); refine JC.cond rfl ?_ ?_)
        · intro h25
          (try simp only [Bool.not_eq_true', Bool.not_eq_false', decide_eq_true_eq, decide_eq_false_iff_not] at h25)
          ((repeat refine JC.seq ?_); refine JC.region ?_)
          refine JL.pure rfl rfl ?_
          refine JL.nil ?_
          ((repeat refine Ex.normal_block ?_); refine Ex.next ?_)
          ((repeat refine JC.seq ?_); refine JC.ret ?_)
          (repeat (first | refine Ex.ret_then ?_ | refine Ex.ret_block ?_))
          refine Ex.ret1 rfl (.tmp rfl) ⟨?_, H.below⟩
          rw [decide_eq_false]
          rintro rfl
          simp at h25
        · intro h25
          (try simp only [Bool.not_eq_true', Bool.not_eq_false', decide_eq_true_eq, decide_eq_false_iff_not] at h25)
          ((repeat refine JC.seq ?_); refine JC.skip ?_)
          ((repeat refine Ex.normal_block ?_); refine Ex.next ?_)
          ((repeat refine JC.seq ?_); refine JC.region ?_)
          refine JL.pure rfl rfl ?_
          refine JL.arith rfl (by unfold In64; omega) rfl ?_
          refine JL.pure rfl rfl ?_
          refine JL.nil ?_
          (repeat refine Ex.normal_block ?_)
          have hxy : a[k] = b[k] := by
            cases hp : a[k] with
            | mk p q r => cases hq : b[k] with
              | mk p' q' r' => rw [hp, hq] at h25; simp at h25; simp [h25]
          refine Ex.again (k + 1) ⟨rfl, rfl, rfl, trivial⟩ ⟨h14, fun i hi => ?_, H⟩ (by omega)
          by_cases hik : i = k
          · subst hik; rw [hx, hy, hxy]
          · exact heq i (by omega)
      · intro h14
        (try simp only [Bool.not_eq_true', Bool.not_eq_false', decide_eq_true_eq, decide_eq_false_iff_not] at h14)
        
        ((repeat refine JC.seq ?_); refine JC.exit ?_)
        (repeat (first | refine Ex.exit_then ?_ | refine Ex.exit_miss (by decide) ?_))
        refine Ex.exit_hit ?_
        ((repeat refine Ex.normal_block ?_); refine Ex.next ?_)
        ((repeat refine JC.seq ?_); refine JC.region ?_)
        refine JL.pure rfl rfl ?_
        refine JL.nil ?_
        ((repeat refine Ex.normal_block ?_); refine Ex.next ?_)
        ((repeat refine JC.seq ?_); refine JC.ret ?_)
        (repeat (first | refine Ex.ret_then ?_ | refine Ex.ret_block ?_))
        refine Ex.ret1 rfl (.tmp rfl) ⟨?_, H.below⟩
        rw [decide_eq_true]
        apply List.ext_getElem?
        intro i
        rcases Nat.lt_or_ge i k with hi | hi
        · exact heq i hi
        · rw [List.getElem?_eq_none (by omega), List.getElem?_eq_none (by omega)]
def backR (g : Grid) (r : List Run) (p : Push) : List Run × Int := if p.ok then ((growR g r ⟨⟨-p.High.X, -p.High.Y⟩, ⟨-p.Low.X, -p.Low.Y⟩⟩).1, (growR g r ⟨⟨-p.High.X, -p.High.Y⟩, ⟨-p.Low.X, -p.Low.Y⟩⟩).2.2) else ([], 2)
theorem back_c (g : Grid) (lv rv : Value) (r : List Run) (p : Push) (w : World) (hl : SlR w lv g.land) (hr : SlR w rv r) : Calls Try.prog 46 #[g.ev lv, rv, p.ev] w (fun e w' => ResR w w' [] (backR g r p) e) := by
  refine calls_J (args := [g.ev lv, rv, p.ev]) Try.func46 rfl Try.ntmps46 rfl ?_
  have H := Own.start w
  ((repeat refine JC.seq ?_); refine JC.region ?_)
  refine JL.box H rfl rfl rfl ?_
  intro b3 w1 H
  refine JL.box H rfl rfl rfl ?_
  intro b5 w2 H
  refine JL.pure rfl rfl ?_
  refine JL.pure rfl rfl ?_
  refine JL.nil ?_
  ((repeat refine Ex.normal_block ?_); refine Ex.next ?_)
  ((repeat refine JC.seq ?_); refine JC.region ?_)
  refine JL.loadB 0 H rfl sh54 rfl rfl rfl ?_
  refine JL.callP H fb132 rfl rfl (pushed_c p _) ?_
  intro w3 H _
  refine JL.pure rfl rfl ?_
  refine JL.nil ?_
  ((repeat refine Ex.normal_block ?_); refine Ex.next ?_)
  ((repeat refine JC.seq ?_); refine JC.cond rfl ?_ ?_)
  · intro h13
    (try simp only [Bool.not_eq_true', Bool.not_eq_false', decide_eq_true_eq, decide_eq_false_iff_not] at h13)
    have hpok : p.ok = false := by simpa using h13
    ((repeat refine JC.seq ?_); refine JC.region ?_)
    refine JL.pure rfl rfl ?_
    refine JL.pure rfl rfl ?_
    refine JL.nil ?_
    ((repeat refine Ex.normal_block ?_); refine Ex.next ?_)
    ((repeat refine JC.seq ?_); refine JC.ret ?_)
    (repeat (first | refine Ex.ret_then ?_ | refine Ex.ret_block ?_))
    refine Ex.ret2 rfl (.tmp rfl) (.tmp rfl) ?_
    unfold backR ResR; rw [hpok]
    exact ⟨_, rfl, ((H.drop 0).drop 0).nilRow 140 3⟩
  · intro h13
    (try simp only [Bool.not_eq_true', Bool.not_eq_false', decide_eq_true_eq, decide_eq_false_iff_not] at h13)
    have hpok : p.ok = true := by simpa using h13
    have hpb : (-16777216 ≤ p.Low.X ∧ p.Low.X ≤ p.High.X) ∧ (-16777216 ≤ p.Low.Y ∧ p.Low.Y ≤ p.High.Y) ∧ max p.High.X p.High.Y ≤ 16777216 := by
      have := hpok
      unfold Push.ok at this
      simpa [and_assoc] using this
    ((repeat refine JC.seq ?_); refine JC.skip ?_)
    ((repeat refine Ex.normal_block ?_); refine Ex.next ?_)
    ((repeat refine JC.seq ?_); refine JC.region ?_)
    refine JL.loadB 1 H rfl sh52 rfl rfl rfl ?_
    refine JL.pure rfl rfl ?_
    refine JL.fieldAddr rfl Try.underlying54 rfl sh23 rfl ?_
    refine JL.fieldAddr rfl Try.underlying23 rfl sh3 rfl ?_
    refine JL.loadB 0 H rfl sh3 rfl rfl rfl ?_
    refine JL.neg rfl (by unfold In64; omega) rfl ?_
    refine JL.fieldAddr rfl Try.underlying54 rfl sh23 rfl ?_
    refine JL.fieldAddr rfl Try.underlying23 rfl sh3 rfl ?_
    refine JL.loadB 0 H rfl sh3 rfl rfl rfl ?_
    refine JL.neg rfl (by unfold In64; omega) rfl ?_
    refine JL.build s23 rfl rfl ?_
    refine JL.fieldAddr rfl Try.underlying54 rfl sh23 rfl ?_
    refine JL.fieldAddr rfl Try.underlying23 rfl sh3 rfl ?_
    refine JL.loadB 0 H rfl sh3 rfl rfl rfl ?_
    refine JL.neg rfl (by unfold In64; omega) rfl ?_
    refine JL.fieldAddr rfl Try.underlying54 rfl sh23 rfl ?_
    refine JL.fieldAddr rfl Try.underlying23 rfl sh3 rfl ?_
    refine JL.loadB 0 H rfl sh3 rfl rfl rfl ?_
    refine JL.neg rfl (by unfold In64; omega) rfl ?_
    refine JL.build s23 rfl rfl ?_
    refine JL.build s54 rfl rfl ?_
    refine JL.call fb43 rfl rfl (grow_c g lv rv r ⟨⟨-p.High.X, -p.High.Y⟩, ⟨-p.Low.X, -p.Low.Y⟩⟩ _ (hl.grow H.below) (hr.grow H.below)) ?_
    rintro _ w4 ⟨ov, rfl, K⟩
    have H := H.join K
    refine ⟨_, rfl, ?_⟩
    refine JL.pure rfl rfl ?_
    refine JL.pure rfl rfl ?_
    refine JL.pure rfl rfl ?_
    refine JL.pure rfl rfl ?_
    refine JL.pure rfl rfl ?_
    refine JL.pure rfl rfl ?_
    refine JL.pure rfl rfl ?_
    refine JL.nil ?_
    ((repeat refine Ex.normal_block ?_); refine Ex.next ?_)
    ((repeat refine JC.seq ?_); refine JC.region ?_)
    refine JL.pure rfl rfl ?_
    refine JL.pure rfl rfl ?_
    refine JL.pure rfl rfl ?_
    refine JL.pure rfl rfl ?_
    refine JL.nil ?_
    ((repeat refine Ex.normal_block ?_); refine Ex.next ?_)
    ((repeat refine JC.seq ?_); refine JC.ret ?_)
    (repeat (first | refine Ex.ret_then ?_ | refine Ex.ret_block ?_))
    refine Ex.ret2 rfl (.tmp rfl) (.tmp rfl) ?_
    unfold backR ResR; rw [hpok]
    exact ⟨_, rfl, (H.drop 1).drop 1⟩
def reachB (a b size low high : Int) : Bool := decide (a + low ≤ b + size - 1) && decide (a + size - 1 + high ≥ b)
theorem reach_c (a b size low high : Int) (w : World) (ha : -1000000000000 ≤ a ∧ a ≤ 1000000000000) (hb : -1000000000000 ≤ b ∧ b ≤ 1000000000000) (hs : -1000000000000 ≤ size ∧ size ≤ 1000000000000) (hl : -1000000000000 ≤ low ∧ low ≤ 1000000000000)
    (hh : -1000000000000 ≤ high ∧ high ≤ 1000000000000) : Pur Try.prog 47 #[.int .i64 a, .int .i64 b, .int .i64 size, .int .i64 low, .int .i64 high] w (.bool (reachB a b size low high)) := by
  refine pur_J (args := [.int .i64 a, .int .i64 b, .int .i64 size, .int .i64 low, .int .i64 high]) Try.func47 rfl Try.ntmps47 rfl ?_
  have H := Own.start w
  ((repeat refine JC.seq ?_); refine JC.region ?_)
  refine JL.pure rfl rfl ?_
  refine JL.nil ?_
  ((repeat refine Ex.normal_block ?_); refine Ex.next ?_)
  ((repeat refine JC.seq ?_); refine JC.region ?_)
  refine JL.pure rfl rfl ?_
  refine JL.pure rfl rfl ?_
  refine JL.arith rfl (by unfold In64; omega) rfl ?_
  refine JL.pure rfl rfl ?_
  refine JL.pure rfl rfl ?_
  refine JL.arith rfl (by unfold In64; omega) rfl ?_
  refine JL.arith rfl (by unfold In64; omega) rfl ?_
  refine JL.pure rfl rfl ?_
  refine JL.pure rfl rfl ?_
  refine JL.cases 19 rfl ?_ ?_
  · intro h19
    (try simp only [Bool.not_eq_true', Bool.not_eq_false', decide_eq_true_eq, decide_eq_false_iff_not] at h19)
    refine JL.want rfl rfl ?_
    refine JL.pure rfl rfl ?_
    refine JL.want rfl rfl ?_
    refine JL.pure rfl rfl ?_
    refine JL.want rfl rfl ?_
    refine JL.arith rfl (by unfold In64; omega) rfl ?_
    refine JL.want rfl rfl ?_
    refine JL.arith rfl (by unfold In64; omega) rfl ?_
    refine JL.want rfl rfl ?_
    refine JL.pure rfl rfl ?_
    refine JL.want rfl rfl ?_
    refine JL.arith rfl (by unfold In64; omega) rfl ?_
    refine JL.want rfl rfl ?_
    refine JL.pure rfl rfl ?_
    refine JL.want rfl rfl ?_
    refine JL.pure rfl rfl ?_
    refine JL.pure rfl rfl ?_
    refine JL.pure rfl rfl ?_
    refine JL.nil ?_
    ((repeat refine Ex.normal_block ?_); refine Ex.next ?_)
    ((repeat refine JC.seq ?_); refine JC.ret ?_)
    (repeat (first | refine Ex.ret_then ?_ | refine Ex.ret_block ?_))
    refine Ex.ret1 rfl (.tmp rfl) ⟨?_, H.below⟩
    unfold reachB
    simp [*]
  · intro h19
    (try simp only [Bool.not_eq_true', Bool.not_eq_false', decide_eq_true_eq, decide_eq_false_iff_not] at h19)
    refine JL.pass rfl rfl rfl rfl ?_
    refine JL.pass rfl rfl rfl rfl ?_
    refine JL.pass rfl rfl rfl rfl ?_
    refine JL.pass rfl rfl rfl rfl ?_
    refine JL.pass rfl rfl rfl rfl ?_
    refine JL.pass rfl rfl rfl rfl ?_
    refine JL.pass rfl rfl rfl rfl ?_
    refine JL.pass rfl rfl rfl rfl ?_
    refine JL.pure rfl rfl ?_
    refine JL.pure rfl rfl ?_
    refine JL.nil ?_
    ((repeat refine Ex.normal_block ?_); refine Ex.next ?_)
    ((repeat refine JC.seq ?_); refine JC.ret ?_)
    (repeat (first | refine Ex.ret_then ?_ | refine Ex.ret_block ?_))
    refine Ex.ret1 rfl (.tmp rfl) ⟨?_, H.below⟩
    unfold reachB
    simp [*]
end Go.J

namespace Go.J
set_option linter.unusedSimpArgs false
set_option linter.unusedVariables false
open Go.RowKit
/-- does operation t wait for operation i? -/
def reachB' (ops : Array Oper) : Nat → Nat → Nat → Bool
  | 0, _, _ => false
  | f + 1, t, i => match ops[t]? with
    | some o => depsOf o.after i || o.after.toList.any fun e => Region.binds .any e && reachB' ops f e.on i
    | none => false
theorem reachB'_spec {ops : Array Oper} {n i : Nat} {listed : Array Bool} (inv : HeadInv .any ops n listed) : ∀ (f t : Nat) (o : Oper), ops[t]? = some o → (∀ e ∈ o.after, Region.binds .any e = true → listed.getD e.on false = true) → reachB' ops f t i = true → listed.getD i false = true := by
  intro f
  induction f with
  | zero => intro t o _ _ h; cases h
  | succ f ih =>
    intro t o ho hd h
    simp only [reachB', ho, Bool.or_eq_true, List.any_eq_true, Bool.and_eq_true] at h
    rcases h with h | ⟨e, he, hb, h⟩
    · obtain ⟨e, he, h1, h2⟩ := depsOf_spec h
      rw [← h1]; exact hd e he h2
    · have he' : e ∈ o.after := Array.mem_toList_iff.1 he
      have hl := hd e he' hb
      cases f with
      | zero => cases h
      | succ f =>
        cases ho2 : ops[e.on]? with
        | none => simp only [reachB', ho2] at h; cases h
        | some o2 => exact ih e.on o2 ho2 (inv.closed e.on o2 ho2 hl) h
def waitB (ops : Array Oper) (m n : Nat) : Bool := (List.range ops.size).all fun t => Nat.blt t n || (List.range n).all fun i => Nat.blt i m || reachB' ops 9 t i
theorem waitB_spec {ops : Array Oper} {m n : Nat} (h : waitB ops m n = true) : ∀ listed, HeadInv .any ops n listed → ∀ i, i < n → listed.getD i true = false → (∀ j, j < m → listed.getD j false = true) → ∀ t, n ≤ t → t ∉ Region.ready .any ops listed := by
  intro listed inv i hi hl hm t ht hr
  obtain ⟨_, o, ho, hd⟩ := mem_ready.1 hr
  have hts : t < ops.size := (Array.getElem?_eq_some_iff.1 ho).1
  have h1 := List.all_eq_true.1 h t (List.mem_range.2 hts)
  have hb : Nat.blt t n = false := by
    cases hc : Nat.blt t n with
    | false => rfl
    | true => have := Nat.lt_of_succ_le (Nat.le_of_ble_eq_true hc); omega
  rw [hb, Bool.false_or] at h1
  have h2 := List.all_eq_true.1 h1 i (List.mem_range.2 hi)
  have him : Nat.blt i m = false := by
    cases hc : Nat.blt i m with
    | false => rfl
    | true =>
      have := hm i (Nat.lt_of_succ_le (Nat.le_of_ble_eq_true hc))
      have h3 := getD_both hl
      rw [h3] at this; cases this
  rw [him, Bool.false_or] at h2
  have := reachB'_spec inv 9 t o ho hd h2
  rw [getD_both hl] at this
  cases this
section
variable {P : Program} {N : Sz} {ops : Array Oper} {Q : Exit → Act → World → Prop} {fr : Fr} {w w0 : World} {L : List HP}
/-- what is left of a region that draws its order, when its first m operations are done -/
def DR (P : Program) (N : Sz) (ops : Array Oper) (Q : Exit → Act → World → Prop) (m : Nat) (fr : Fr) (w : World) : Prop := ∀ a, Has N fr a → wpAnyIn (wideR N.ro) 0 P .any ops Q (ops.size - m) (pre ops m) a w
theorem JC.drawS {id : Nat} (H : Own w0 w L) (hm : P.follows .mixedOrders = true) (k : ∀ w1, Own w0 w1 L → DR P N ops Q 0 fr w1) : JC P N (.region id ops true) Q fr w := by
  intro a Ha
  refine wpIn_region_any hm ?_
  have h := k _ H.drew a Ha
  have e1 : pre ops 0 = Array.replicate ops.size false := by simp [pre]
  rw [e1] at h
  exact h
theorem DR.any (m n : Nat) (H : Own w0 w L) (hc : (backB ops && Nat.ble m n && Nat.ble n ops.size && waitB ops m n && freshB (ops.toList.take n)) = true)
    (k : JD P N ops Q n [] (fun _ => L) w0 (frAtM ops m n fr) (fun fr w => DR P N ops Q n fr w) ((ops.toList.take n).drop m) m []) : DR P N ops Q m fr w := by
  intro a Ha
  simp only [Bool.and_eq_true] at hc
  obtain ⟨⟨⟨⟨h1, h2⟩, h3⟩, h4⟩, h5⟩ := hc
  exact draw_seg (Nat.le_of_ble_eq_true h2) h1 (Nat.le_of_ble_eq_true h3) rfl (by simp) (waitB_spec h4) (fun fr a w Hf hz => hz a Hf) h5 H rfl Ha k
theorem DR.op {m : Nat} {o : Oper} (ho : ops[m]? = some o) (hr : Region.ready .any ops (pre ops m) = [m]) (h : JL P N ops (Exit.then (fun a w => wpAnyIn (wideR N.ro) 0 P .any ops Q (ops.size - (m + 1)) (pre ops (m + 1)) a w) Q) [o] fr w) : DR P N ops Q m fr w := by
  intro a Ha
  have hm : m < ops.size := (Array.getElem?_eq_some_iff.1 ho).1
  have hset : (pre ops m).setIfInBounds m true = pre ops (m + 1) := by
    apply Array.ext
    · simp [pre]; omega
    · intro i h1 h2
      by_cases hi : i = m
      · subst hi
        have := pre_lt (ops := ops) (n := i + 1) (j := i) (by omega) false
        simp [h2] at this
        simp [this]
      · have h3 := getD_set_ne (listed := pre ops m) (i := m) (j := i) false (fun h => hi h.symm)
        have h4 : (pre ops m).getD i false = (pre ops (m + 1)).getD i false := by
          rcases Nat.lt_or_ge i m with h | h
          · rw [pre_lt h, pre_lt (by omega)]
          · rw [pre_ge h, pre_ge (by omega)]
        rw [h4] at h3
        rw [Array.getD_eq_getD_getElem?, Array.getD_eq_getD_getElem?, Array.getElem?_eq_getElem h1, Array.getElem?_eq_getElem h2] at h3
        exact h3
  have hw := h a Ha
  rw [show ops.size - m = (ops.size - (m + 1)) + 1 by omega]
  refine ⟨fun hr' => (by rw [hr] at hr'; cases hr'), fun i hi => ?_⟩
  rw [hr] at hi
  simp at hi
  subst hi
  rw [hset]
  unfold wpOpIn
  rw [ho]
  simp only
  unfold wpListIn at hw
  split at hw
  · rename_i hwant
    rw [if_pos hwant]
    refine Oper.wpIn_exits (fun e a w hne q => ?_) hw
    cases e <;> first | exact absurd rfl hne | exact q
  · rename_i hwant
    rw [if_neg hwant]
    exact ⟨fun _ _ => trivial, hw.2⟩
theorem DR.next {m : Nat} (h : DR P N ops Q m fr w) : JL P N ops (Exit.then (fun a w => wpAnyIn (wideR N.ro) 0 P .any ops Q (ops.size - m) (pre ops m) a w) Q) [] fr w := h
theorem DR.done {m : Nat} (hm : Nat.beq m ops.size = true) (k : Ex N Q .normal fr w) : DR P N ops Q m fr w := by
  intro a Ha
  have := Nat.eq_of_beq_eq_true hm
  subst this
  rw [Nat.sub_self]
  refine ⟨?_, k a Ha⟩
  rw [List.eq_nil_iff_forall_not_mem]
  intro j hj
  obtain ⟨h1, o, ho, _⟩ := mem_ready.1 hj
  have := (Array.getElem?_eq_some_iff.1 ho).1
  rw [pre_lt this] at h1
  cases h1
end
end Go.J

namespace Go.J
open Go.RowKit Go.Proofs
set_option maxRecDepth 8000
set_option linter.unusedSimpArgs false
set_option linter.unusedVariables false
def hugeB (g : Grid) (n : Int) : Bool := decide (0 < g.W) && decide (0 < g.H) && decide (g.W ≤ 256) && decide (g.H ≤ 256) && decide (n < g.W * g.H)
def greatB (g : Grid) (n : Int) (l : List (List Run)) : Bool := hugeB g n || decide (300 < g.land.length) || l.any fun r => decide (300 < r.length)
theorem great_c (g : Grid) (lv lsv : Value) (n : Int) (l : List (Value × List Run)) (w : World) (hl : SlR w lv g.land) (hs : Sl Prod.fst (false, 1) w lsv l) (hr : ∀ p ∈ l, SlR w p.1 p.2) :
    Pur Try.prog 41 #[g.ev lv, .int .i64 n, lsv] w (.bool (greatB g n (l.map Prod.snd))) := by
  obtain ⟨la, lc, rfl⟩ := hl.len
  obtain ⟨sa, sc, rfl⟩ := hs.len
  refine pur_J (args := [g.ev (.slice la g.land.length lc), .int .i64 n, .slice sa l.length sc]) Try.func41 rfl Try.ntmps41 rfl ?_
  have H := Own.start w
  ((repeat refine JC.seq ?_); refine JC.region ?_)
  refine JL.box H rfl rfl rfl ?_
  intro b3 w1 H
  refine JL.pure rfl rfl ?_
  refine JL.nil ?_
  ((repeat refine Ex.normal_block ?_); refine Ex.next ?_)
  ((repeat refine JC.seq ?_); refine JC.regionTo ([(2, .slice sa l.length sc), (40, .bool (hugeB g n || decide (300 < g.land.length)))]) (fun wr => Own w wr []) ?_ ?_)
  ·
    refine JL.fieldAddr rfl Try.underlying52 rfl sh3 rfl ?_
    refine JL.loadB 0 H rfl sh3 rfl rfl rfl ?_
    refine JL.pure rfl rfl ?_
    refine JL.pure rfl rfl ?_
    refine JL.cases 11 rfl ?_ ?_
    · intro h11
      (try simp only [Bool.not_eq_true', Bool.not_eq_false', decide_eq_true_eq, decide_eq_false_iff_not] at h11)
      refine JL.want rfl rfl ?_
      refine JL.fieldAddr rfl Try.underlying52 rfl sh3 rfl ?_
      refine JL.want rfl rfl ?_
      refine JL.loadB 0 H rfl sh3 rfl rfl rfl ?_
      refine JL.want rfl rfl ?_
      refine JL.pure rfl rfl ?_
      refine JL.pure rfl rfl ?_
      refine JL.pure rfl rfl ?_
      refine JL.cases 16 rfl ?_ ?_
      · intro h16
        (try simp only [Bool.not_eq_true', Bool.not_eq_false', decide_eq_true_eq, decide_eq_false_iff_not] at h16)
        refine JL.want rfl rfl ?_
        refine JL.fieldAddr rfl Try.underlying52 rfl sh3 rfl ?_
        refine JL.want rfl rfl ?_
        refine JL.loadB 0 H rfl sh3 rfl rfl rfl ?_
        refine JL.want rfl rfl ?_
        refine JL.pure rfl rfl ?_
        refine JL.pure rfl rfl ?_
        refine JL.pure rfl rfl ?_
        refine JL.cases 21 rfl ?_ ?_
        · intro h21
          (try simp only [Bool.not_eq_true', Bool.not_eq_false', decide_eq_true_eq, decide_eq_false_iff_not] at h21)
          refine JL.want rfl rfl ?_
          refine JL.fieldAddr rfl Try.underlying52 rfl sh3 rfl ?_
          refine JL.want rfl rfl ?_
          refine JL.loadB 0 H rfl sh3 rfl rfl rfl ?_
          refine JL.want rfl rfl ?_
          refine JL.pure rfl rfl ?_
          refine JL.pure rfl rfl ?_
          refine JL.pure rfl rfl ?_
          refine JL.cases 26 rfl ?_ ?_
          · intro h26
            (try simp only [Bool.not_eq_true', Bool.not_eq_false', decide_eq_true_eq, decide_eq_false_iff_not] at h26)
            refine JL.want rfl rfl ?_
            refine JL.fieldAddr rfl Try.underlying52 rfl sh3 rfl ?_
            refine JL.want rfl rfl ?_
            refine JL.loadB 0 H rfl sh3 rfl rfl rfl ?_
            refine JL.want rfl rfl ?_
            refine JL.fieldAddr rfl Try.underlying52 rfl sh3 rfl ?_
            refine JL.want rfl rfl ?_
            refine JL.loadB 0 H rfl sh3 rfl rfl rfl ?_
            refine JL.want rfl rfl ?_
            refine JL.arith rfl (by
              have h1 : g.W * g.H ≤ 256 * 256 := Int.mul_le_mul (by omega) (by omega) (by omega) (by omega)
              have h2 : 0 ≤ g.W * g.H := Int.mul_nonneg (by omega) (by omega)
              unfold In64; omega) rfl ?_
            refine JL.want rfl rfl ?_
            refine JL.pure rfl rfl ?_
            refine JL.want rfl rfl ?_
            refine JL.pure rfl rfl ?_
            refine JL.pure rfl rfl ?_
            refine JL.pure rfl rfl ?_
            refine JL.cases 35 rfl ?_ ?_
            · intro h35
              (try simp only [Bool.not_eq_true', Bool.not_eq_false', decide_eq_true_eq, decide_eq_false_iff_not] at h35)
              refine JL.pass rfl rfl rfl rfl ?_
              refine JL.pass rfl rfl rfl rfl ?_
              refine JL.pass rfl rfl rfl rfl ?_
              refine JL.pass rfl rfl rfl rfl ?_
              refine JL.pure rfl rfl ?_
              refine JL.nil ?_
              refine Ex.to ⟨rfl, ?_, trivial⟩ (H.drop 0)
              show some (Value.bool _) = some (Value.bool _)
              unfold hugeB
              first | (simp [*]; done) | (simp [*]; omega)
            · intro h35
              (try simp only [Bool.not_eq_true', Bool.not_eq_false', decide_eq_true_eq, decide_eq_false_iff_not] at h35)
              refine JL.want rfl rfl ?_
              refine JL.fieldAddr rfl Try.underlying52 rfl sh50 rfl ?_
              refine JL.want rfl rfl ?_
              refine JL.loadB 0 H rfl sh50 rfl rfl rfl ?_
              refine JL.want rfl rfl ?_
              refine JL.len rfl Try.underlying50 rfl ?_
              refine JL.want rfl rfl ?_
              refine JL.pure rfl rfl ?_
              refine JL.pure rfl rfl ?_
              refine JL.nil ?_
              refine Ex.to ⟨rfl, ?_, trivial⟩ (H.drop 0)
              show some (Value.bool _) = some (Value.bool _)
              unfold hugeB
              first | (simp [*]; done) | (simp [*]; omega)
          · intro h26
            (try simp only [Bool.not_eq_true', Bool.not_eq_false', decide_eq_true_eq, decide_eq_false_iff_not] at h26)
            refine JL.pass rfl rfl rfl rfl ?_
            refine JL.pass rfl rfl rfl rfl ?_
            refine JL.pass rfl rfl rfl rfl ?_
            refine JL.pass rfl rfl rfl rfl ?_
            refine JL.pass rfl rfl rfl rfl ?_
            refine JL.pass rfl rfl rfl rfl ?_
            refine JL.pass rfl rfl rfl rfl ?_
            refine JL.pure rfl rfl ?_
            refine JL.pure rfl rfl ?_
            refine JL.want rfl rfl ?_
            refine JL.fieldAddr rfl Try.underlying52 rfl sh50 rfl ?_
            refine JL.want rfl rfl ?_
            refine JL.loadB 0 H rfl sh50 rfl rfl rfl ?_
            refine JL.want rfl rfl ?_
            refine JL.len rfl Try.underlying50 rfl ?_
            refine JL.want rfl rfl ?_
            refine JL.pure rfl rfl ?_
            refine JL.pure rfl rfl ?_
            refine JL.nil ?_
            refine Ex.to ⟨rfl, ?_, trivial⟩ (H.drop 0)
            show some (Value.bool _) = some (Value.bool _)
            unfold hugeB
            first | (simp [*]; done) | (simp [*]; omega)
        · intro h21
          (try simp only [Bool.not_eq_true', Bool.not_eq_false', decide_eq_true_eq, decide_eq_false_iff_not] at h21)
          refine JL.pass rfl rfl rfl rfl ?_
          refine JL.pass rfl rfl rfl rfl ?_
          refine JL.pass rfl rfl rfl rfl ?_
          refine JL.pure rfl rfl ?_
          refine JL.pure rfl rfl ?_
          refine JL.pass rfl rfl rfl rfl ?_
          refine JL.pass rfl rfl rfl rfl ?_
          refine JL.pass rfl rfl rfl rfl ?_
          refine JL.pass rfl rfl rfl rfl ?_
          refine JL.pass rfl rfl rfl rfl ?_
          refine JL.pass rfl rfl rfl rfl ?_
          refine JL.pass rfl rfl rfl rfl ?_
          refine JL.pure rfl rfl ?_
          refine JL.pure rfl rfl ?_
          refine JL.want rfl rfl ?_
          refine JL.fieldAddr rfl Try.underlying52 rfl sh50 rfl ?_
          refine JL.want rfl rfl ?_
          refine JL.loadB 0 H rfl sh50 rfl rfl rfl ?_
          refine JL.want rfl rfl ?_
          refine JL.len rfl Try.underlying50 rfl ?_
          refine JL.want rfl rfl ?_
          refine JL.pure rfl rfl ?_
          refine JL.pure rfl rfl ?_
          refine JL.nil ?_
          refine Ex.to ⟨rfl, ?_, trivial⟩ (H.drop 0)
          show some (Value.bool _) = some (Value.bool _)
          unfold hugeB
          first | (simp [*]; done) | (simp [*]; omega)
      · intro h16
        (try simp only [Bool.not_eq_true', Bool.not_eq_false', decide_eq_true_eq, decide_eq_false_iff_not] at h16)
        refine JL.pass rfl rfl rfl rfl ?_
        refine JL.pass rfl rfl rfl rfl ?_
        refine JL.pass rfl rfl rfl rfl ?_
        refine JL.pure rfl rfl ?_
        refine JL.pure rfl rfl ?_
        refine JL.pass rfl rfl rfl rfl ?_
        refine JL.pass rfl rfl rfl rfl ?_
        refine JL.pass rfl rfl rfl rfl ?_
        refine JL.pure rfl rfl ?_
        refine JL.pure rfl rfl ?_
        refine JL.pass rfl rfl rfl rfl ?_
        refine JL.pass rfl rfl rfl rfl ?_
        refine JL.pass rfl rfl rfl rfl ?_
        refine JL.pass rfl rfl rfl rfl ?_
        refine JL.pass rfl rfl rfl rfl ?_
        refine JL.pass rfl rfl rfl rfl ?_
        refine JL.pass rfl rfl rfl rfl ?_
        refine JL.pure rfl rfl ?_
        refine JL.pure rfl rfl ?_
        refine JL.want rfl rfl ?_
        refine JL.fieldAddr rfl Try.underlying52 rfl sh50 rfl ?_
        refine JL.want rfl rfl ?_
        refine JL.loadB 0 H rfl sh50 rfl rfl rfl ?_
        refine JL.want rfl rfl ?_
        refine JL.len rfl Try.underlying50 rfl ?_
        refine JL.want rfl rfl ?_
        refine JL.pure rfl rfl ?_
        refine JL.pure rfl rfl ?_
        refine JL.nil ?_
        refine Ex.to ⟨rfl, ?_, trivial⟩ (H.drop 0)
        show some (Value.bool _) = some (Value.bool _)
        unfold hugeB
        first | (simp [*]; done) | (simp [*]; omega)
    · intro h11
      (try simp only [Bool.not_eq_true', Bool.not_eq_false', decide_eq_true_eq, decide_eq_false_iff_not] at h11)
      refine JL.pass rfl rfl rfl rfl ?_
      refine JL.pass rfl rfl rfl rfl ?_
      refine JL.pass rfl rfl rfl rfl ?_
      refine JL.pure rfl rfl ?_
      refine JL.pure rfl rfl ?_
      refine JL.pass rfl rfl rfl rfl ?_
      refine JL.pass rfl rfl rfl rfl ?_
      refine JL.pass rfl rfl rfl rfl ?_
      refine JL.pure rfl rfl ?_
      refine JL.pure rfl rfl ?_
      refine JL.pass rfl rfl rfl rfl ?_
      refine JL.pass rfl rfl rfl rfl ?_
      refine JL.pass rfl rfl rfl rfl ?_
      refine JL.pure rfl rfl ?_
      refine JL.pure rfl rfl ?_
      refine JL.pass rfl rfl rfl rfl ?_
      refine JL.pass rfl rfl rfl rfl ?_
      refine JL.pass rfl rfl rfl rfl ?_
      refine JL.pass rfl rfl rfl rfl ?_
      refine JL.pass rfl rfl rfl rfl ?_
      refine JL.pass rfl rfl rfl rfl ?_
      refine JL.pass rfl rfl rfl rfl ?_
      refine JL.pure rfl rfl ?_
      refine JL.pure rfl rfl ?_
      refine JL.want rfl rfl ?_
      refine JL.fieldAddr rfl Try.underlying52 rfl sh50 rfl ?_
      refine JL.want rfl rfl ?_
      refine JL.loadB 0 H rfl sh50 rfl rfl rfl ?_
      refine JL.want rfl rfl ?_
      refine JL.len rfl Try.underlying50 rfl ?_
      refine JL.want rfl rfl ?_
      refine JL.pure rfl rfl ?_
      refine JL.pure rfl rfl ?_
      refine JL.nil ?_
      refine Ex.to ⟨rfl, ?_, trivial⟩ (H.drop 0)
      show some (Value.bool _) = some (Value.bool _)
      unfold hugeB
      first | (simp [*]; done) | (simp [*]; omega)
  · intro wc H
    ((repeat refine Ex.normal_block ?_); refine Ex.next ?_)
    ((repeat refine JC.seq ?_); refine JC.cond rfl ?_ ?_)
    · intro h40
      (try simp only [Bool.not_eq_true', Bool.not_eq_false', decide_eq_true_eq, decide_eq_false_iff_not] at h40)
      ((repeat refine JC.seq ?_); refine JC.region ?_)
      refine JL.pure rfl rfl ?_
      refine JL.nil ?_
      ((repeat refine Ex.normal_block ?_); refine Ex.next ?_)
      ((repeat refine JC.seq ?_); refine JC.ret ?_)
      (repeat (first | refine Ex.ret_then ?_ | refine Ex.ret_block ?_))
      refine Ex.ret1 rfl (.tmp rfl) ⟨?_, H.below⟩
      unfold greatB
      rw [h40]; rfl
    · intro h40
      (try simp only [Bool.not_eq_true', Bool.not_eq_false', decide_eq_true_eq, decide_eq_false_iff_not] at h40)
      ((repeat refine JC.seq ?_); refine JC.skip ?_)
      ((repeat refine Ex.normal_block ?_); refine Ex.next ?_)
      ((repeat refine JC.seq ?_); refine JC.region ?_)
      refine JL.pure rfl rfl ?_
      refine JL.nil ?_
      ((repeat refine Ex.normal_block ?_); refine Ex.next ?_)
      ((repeat refine JC.seq ?_); refine JC.block ?_)
      ((repeat refine JC.seq ?_); refine JC.loop (ι := Nat) (fun k => [(2, .slice sa l.length sc), (7, .int .i64 k)])
        (fun k wr => k ≤ l.length ∧ (∀ (i : Nat) (h : i < l.length), i < k → l[i].2.length ≤ 300) ∧ Own w wr []) (fun k => l.length - k) 0 ?_ ?_ ?_)
      · exact ⟨rfl, rfl, trivial⟩
      · exact ⟨Nat.zero_le _, fun i _ hi => by omega, H⟩
      · rintro k wr ⟨hk, hno, H⟩
        ((repeat refine JC.seq ?_); refine JC.region ?_)
        refine JL.pure rfl rfl ?_
        refine JL.pure rfl rfl ?_
        refine JL.len rfl Try.underlying134 rfl ?_
        refine JL.pure rfl rfl ?_
        refine JL.nil ?_
        ((repeat refine Ex.normal_block ?_); refine Ex.next ?_)
        ((repeat refine JC.seq ?_); refine JC.cond rfl ?_ ?_)
        · intro h44
          (try simp only [Bool.not_eq_true', Bool.not_eq_false', decide_eq_true_eq, decide_eq_false_iff_not] at h44)
          have h44 : k < l.length := by omega
          have hx : l[k]? = some l[k] := by simp [h44]
          obtain ⟨xa, xc, hxv⟩ := (hr _ (List.getElem_mem h44)).len
          obtain ⟨_, _, _, he1, hs'⟩ := id hs
          cases he1
          obtain ⟨β, off, hsa, hβ, hc⟩ := hs'.resolve_left (by rintro rfl; simp at h44)
          ((repeat refine JC.seq ?_); refine JC.skip ?_)
          ((repeat refine Ex.normal_block ?_); refine Ex.next ?_)
          ((repeat refine JC.seq ?_); refine JC.block ?_)
          ((repeat refine JC.seq ?_); refine JC.region ?_)
          refine JL.pure rfl rfl ?_
          refine JL.pure rfl rfl ?_
          refine JL.indexS k (congrArg (fun z => some (Value.slice z l.length sc)) hsa) rfl Try.underlying134 sh50 rfl h44 rfl ?_
          refine JL.load rfl sh50 (by have := (hc k _ hx).grow hβ H.below; rw [hxv] at this; exact this) rfl ?_
          refine JL.len rfl Try.underlying50 rfl ?_
          refine JL.pure rfl rfl ?_
          refine JL.nil ?_
          ((repeat refine Ex.normal_block ?_); refine Ex.next ?_)
          ((repeat refine JC.seq ?_); refine JC.cond rfl ?_ ?_)
          · intro h52
            (try simp only [Bool.not_eq_true', Bool.not_eq_false', decide_eq_true_eq, decide_eq_false_iff_not] at h52)
            ((repeat refine JC.seq ?_); refine JC.region ?_)
            refine JL.pure rfl rfl ?_
            refine JL.nil ?_
            ((repeat refine Ex.normal_block ?_); refine Ex.next ?_)
            ((repeat refine JC.seq ?_); refine JC.ret ?_)
            (repeat (first | refine Ex.ret_then ?_ | refine Ex.ret_block ?_))
            refine Ex.ret1 rfl (.tmp rfl) ⟨?_, H.below⟩
            unfold greatB
            rw [h40, Bool.false_or, List.any_map, List.any_eq_true.2]
            exact ⟨_, List.getElem_mem h44, by simp only [Function.comp_apply, decide_eq_true_eq]; omega⟩
          · intro h52
            (try simp only [Bool.not_eq_true', Bool.not_eq_false', decide_eq_true_eq, decide_eq_false_iff_not] at h52)
            ((repeat refine JC.seq ?_); refine JC.skip ?_)
            ((repeat refine Ex.normal_block ?_); refine Ex.next ?_)
            ((repeat refine JC.seq ?_); refine JC.region ?_)
            refine JL.pure rfl rfl ?_
            refine JL.arith rfl (by unfold In64; omega) rfl ?_
            refine JL.pure rfl rfl ?_
            refine JL.nil ?_
            (repeat refine Ex.normal_block ?_)
            refine Ex.again (k + 1) ⟨rfl, rfl, trivial⟩ ⟨h44, fun i h hi => ?_, H⟩ (by omega)
            by_cases hik : i = k
            · subst hik; omega
            · exact hno i h (by omega)
        · intro h44
          (try simp only [Bool.not_eq_true', Bool.not_eq_false', decide_eq_true_eq, decide_eq_false_iff_not] at h44)
          
          ((repeat refine JC.seq ?_); refine JC.exit ?_)
          (repeat (first | refine Ex.exit_then ?_ | refine Ex.exit_miss (by decide) ?_))
          refine Ex.exit_hit ?_
          ((repeat refine Ex.normal_block ?_); refine Ex.next ?_)
          ((repeat refine JC.seq ?_); refine JC.region ?_)
          refine JL.pure rfl rfl ?_
          refine JL.nil ?_
          ((repeat refine Ex.normal_block ?_); refine Ex.next ?_)
          ((repeat refine JC.seq ?_); refine JC.ret ?_)
          (repeat (first | refine Ex.ret_then ?_ | refine Ex.ret_block ?_))
          refine Ex.ret1 rfl (.tmp rfl) ⟨?_, H.below⟩
          unfold greatB
          have : (l.map Prod.snd).any (fun r => decide (300 < r.length)) = false := by
            rw [List.any_map, List.any_eq_false]
            intro x hx
            obtain ⟨i, hi, rfl⟩ := List.getElem_of_mem hx
            have := hno i hi (by omega)
            simp only [Function.comp_apply, decide_eq_true_eq]
            omega
          rw [h40, this]; rfl
theorem alive_c (w : World) : Pur Try.prog 40 #[] w (.bool true) := by
  refine pur_J (args := []) Try.func40 rfl Try.ntmps40 rfl ?_
  have H := Own.start w
  ((repeat refine JC.seq ?_); refine JC.region ?_)
  refine JL.pure rfl rfl ?_
  refine JL.nil ?_
  ((repeat refine Ex.normal_block ?_); refine Ex.next ?_)
  ((repeat refine JC.seq ?_); refine JC.region ?_)
  refine JL.call fb106 rfl rfl (little_c _) ?_
  rintro _ w1 ⟨lv, rfl, K⟩
  have H := H.join K
  have hcl := H.rowCap (j := 0) rfl
  obtain ⟨la, lc, rfl⟩ := H.row_slice (j := 0) rfl
  refine ⟨_, rfl, ?_⟩
  refine JL.alloc H z52 rfl ?_
  intro b1 w2 H
  refine JL.storeB 0 H rfl rfl sh52 rfl rfl rfl rfl rfl ?_
  intro w3 H
  refine JL.nil ?_
  ((repeat refine Ex.normal_block ?_); refine Ex.next ?_)
  ((repeat refine JC.seq ?_); refine JC.region ?_)
  refine JL.loadB 0 H rfl sh52 rfl rfl rfl ?_
  refine JL.build s23 rfl rfl ?_
  refine JL.callP H fb52 rfl rfl (cellOf_c littleG _ ⟨39, 29⟩ _ (runSl H (j := 1) rfl (by decide))) ?_
  intro w4 H _
  refine JL.pure rfl rfl ?_
  refine JL.pure rfl rfl ?_
  refine JL.pure rfl rfl ?_
  refine JL.alloc H z62 rfl ?_
  intro b2 w5 H
  refine JL.storeB 0 H rfl rfl sh62 rfl rfl rfl rfl rfl ?_
  intro w6 H
  refine JL.pure rfl rfl ?_
  refine JL.nil ?_
  ((repeat refine Ex.normal_block ?_); refine Ex.next ?_)
  ((repeat refine JC.seq ?_); refine JC.region ?_)
  refine JL.loadB 1 H rfl sh52 rfl rfl rfl ?_
  refine JL.call fb98 rfl rfl (sea_c littleG _ _ (runSl H (j := 2) rfl (by decide)) hcl) ?_
  rintro _ w7 ⟨sv, rfl, K⟩
  have H := H.join K
  refine ⟨_, rfl, ?_⟩
  refine JL.pure rfl rfl ?_
  refine JL.pure rfl rfl ?_
  refine JL.pure rfl rfl ?_
  refine JL.pure rfl rfl ?_
  refine JL.pure rfl rfl ?_
  refine JL.nil ?_
  ((repeat refine Ex.normal_block ?_); refine Ex.next ?_)
  ((repeat refine JC.seq ?_); refine JC.drawS H mixed ?_)
  intro w8 H
  refine DR.any 0 5 H (by kernel_rfl) ?_
  refine JD.loadB 2 rfl sh52 rfl rfl rfl ?_
  refine JD.callN (fun v => runRow v (oneR 3 2)) fb45 rfl rfl (fun w1 hw => one_c 3 2 w1) ?_
  refine JD.build s23 rfl rfl ?_
  refine JD.build s23 rfl rfl ?_
  refine JD.build s54 rfl rfl ?_
  refine JD.nil ?_
  intro w9 v24 H
  simp only [Option.isSome_none, Option.isSome_some, cond_false, cond_true] at H
  show DR _ _ _ _ _ _ _
  refine DR.op rfl (by kernel_rfl) ?_
  refine JL.call fb43 rfl rfl (grow_c littleG _ v24 (oneR 3 2) ⟨⟨-10, 1⟩, ⟨-10, 1⟩⟩ _ (runSl H (j := 4) rfl (by decide)) (runSl H (j := 0) rfl (by decide))) ?_
  rintro _ w10 ⟨gv, rfl, K⟩
  have H := H.join K
  refine ⟨_, rfl, ?_⟩
  refine DR.next ?_
  refine DR.any 6 13 H (by kernel_rfl) ?_
  refine JD.pure rfl rfl ?_
  refine JD.pure rfl rfl ?_
  refine JD.pure rfl rfl ?_
  refine JD.pure rfl rfl ?_
  refine JD.pure rfl rfl ?_
  refine JD.pure rfl rfl ?_
  refine JD.pure rfl rfl ?_
  refine JD.nil ?_
  intro w11 H
  show DR _ _ _ _ _ _ _
  refine DR.done rfl ?_
  ((repeat refine Ex.normal_block ?_); refine Ex.next ?_)
  ((repeat refine JC.seq ?_); refine JC.region ?_)
  refine JL.pure rfl rfl ?_
  refine JL.build s140 rfl rfl ?_
  refine JL.build s140 rfl rfl ?_
  refine JL.build s140 rfl rfl ?_
  refine JL.buildSlice H Try.underlying50 sh140 z140 rfl rfl rfl rfl rfl ?_
  intro b36 w12 H
  refine JL.callP H fb67 rfl rfl (same_c _ _ _ [⟨0, 2, 4⟩, ⟨1, 0, 4⟩, ⟨2, 0, 4⟩] _ (runSl H (j := 3) rfl (by decide)) (H.blkSl (j := 0) (enc := Run.cs) rfl [⟨0, 2, 4⟩, ⟨1, 0, 4⟩, ⟨2, 0, 4⟩] rfl (fun _ => rfl) (by decide))) ?_
  intro w13 H _
  refine JL.pure rfl rfl ?_
  refine JL.nil ?_
  ((repeat refine Ex.normal_block ?_); refine Ex.next ?_)
  ((repeat refine JC.seq ?_); refine JC.region ?_)
  refine JL.pure rfl rfl ?_
  refine JL.pure rfl rfl ?_
  refine JL.re 39 rfl (v' := .bool true) (by kernel_rfl) ?_
  refine JL.pure rfl rfl ?_
  refine JL.want rfl rfl ?_
  refine JL.loadB 4 H rfl sh62 rfl rfl rfl ?_
  refine JL.want rfl rfl ?_
  refine JL.build s62 rfl rfl ?_
  refine JL.want rfl rfl ?_
  refine JL.eqs rfl rfl (eqTwo (by decide) _ _ _ _).1 rfl ?_
  refine JL.re 43 rfl (v' := .bool true) (by kernel_rfl) ?_
  refine JL.pure rfl rfl ?_
  refine JL.pure rfl rfl ?_
  refine JL.want rfl rfl ?_
  refine JL.pure rfl rfl ?_
  refine JL.want rfl rfl ?_
  refine JL.pure rfl rfl ?_
  refine JL.re 47 rfl (v' := .bool true) (by kernel_rfl) ?_
  refine JL.pure rfl rfl ?_
  refine JL.pure rfl rfl ?_
  refine JL.want rfl rfl ?_
  refine JL.pure rfl rfl ?_
  refine JL.re 50 rfl (v' := .bool true) (by kernel_rfl) ?_
  refine JL.pure rfl rfl ?_
  refine JL.pure rfl rfl ?_
  refine JL.want rfl rfl ?_
  refine JL.pure rfl rfl ?_
  refine JL.want rfl rfl ?_
  refine JL.pure rfl rfl ?_
  refine JL.re 54 rfl (v' := .bool true) (by kernel_rfl) ?_
  refine JL.pure rfl rfl ?_
  refine JL.pure rfl rfl ?_
  refine JL.want rfl rfl ?_
  refine JL.pure rfl rfl ?_
  refine JL.re 57 rfl (v' := .bool true) (by kernel_rfl) ?_
  refine JL.pure rfl rfl ?_
  refine JL.pure rfl rfl ?_
  refine JL.want rfl rfl ?_
  refine JL.pure rfl rfl ?_
  refine JL.want rfl rfl ?_
  refine JL.call fb45 rfl rfl (one_c 2 2 _) ?_
  rintro _ w14 ⟨v61, rfl, K⟩
  have H := H.join K
  refine ⟨_, rfl, ?_⟩
  refine JL.want rfl rfl ?_
  refine JL.callP H fb67 rfl rfl (same_c _ _ _ (oneR 2 2) _ (runSl H (j := 2) rfl (by decide)) (runSl H (j := 0) rfl (by decide))) ?_
  intro w15 H _
  refine JL.pure rfl rfl ?_
  refine JL.re 63 rfl (v' := .bool true) (by kernel_rfl) ?_
  refine JL.pure rfl rfl ?_
  refine JL.nil ?_
  ((repeat refine Ex.normal_block ?_); refine Ex.next ?_)
  ((repeat refine JC.seq ?_); refine JC.ret ?_)
  (repeat (first | refine Ex.ret_then ?_ | refine Ex.ret_block ?_))
  refine Ex.ret1 rfl (.tmp rfl) ⟨rfl, H.below⟩
end Go.J

namespace Go.J
set_option linter.unusedSimpArgs false
set_option linter.unusedVariables false
/-! plain: which cells a table's region has -/
def tabCov (T : Tab) (y : Nat) (x : Int) : Prop := spCov (T.getD y []) x
theorem tabCov0 (y : Nat) (x : Int) : ¬ tabCov tab0 y x := by
  rintro ⟨s, hs, _⟩
  have : tab0.getD y [] = [] := by
    unfold tab0
    rw [List.getD_eq_getElem?_getD, List.getElem?_replicate]
    split <;> rfl
  rw [this] at hs
  cases hs
theorem hasB_iff {rs : List Run} {c : Cell} : hasB rs c = true ↔ ∃ r ∈ rs, r.Y = c.Y ∧ r.From ≤ c.X ∧ c.X < r.To := by
  unfold hasB Run.has
  simp [List.any_eq_true, and_assoc]
theorem mem_getD {T : Tab} {y : Nat} {s : Span} (h : s ∈ T.getD y []) : ∃ l ∈ T, s ∈ l := by
  rw [List.getD_eq_getElem?_getD] at h
  cases hx : T[y]? with
  | none => rw [hx] at h; cases h
  | some l => rw [hx] at h; exact ⟨l, List.mem_of_getElem? hx, h⟩
theorem regR_has {W : Int} {k : Nat} {T : Tab} (hg : Tab.good W k T) (c : Cell) : hasB (regR T) c = true ↔ 0 ≤ c.Y ∧ c.Y < 256 ∧ tabCov T c.Y.toNat c.X := by
  rw [hasB_iff]
  have hn : ∀ y, ∀ x, spCov (norm (T.getD y [])) x ↔ spCov (T.getD y []) x := fun y => (norm_ok (l := T.getD y []) fun s hs => by
    obtain ⟨l, hl, hs'⟩ := mem_getD hs
    exact (hg.ne l hl s hs').1).2
  constructor
  · rintro ⟨r, hr, h1, h2, h3⟩
    unfold regR outR at hr
    rw [List.mem_flatMap] at hr
    obtain ⟨y, hy, hr⟩ := hr
    rw [List.mem_range] at hy
    unfold rowR at hr
    rw [List.mem_map] at hr
    obtain ⟨s, hs, rfl⟩ := hr
    simp only at h1 h2 h3
    refine ⟨by omega, by omega, ?_⟩
    rw [show c.Y.toNat = y by omega]
    exact (hn y c.X).1 ⟨s, hs, h2, h3⟩
  · rintro ⟨h1, h2, h3⟩
    obtain ⟨s, hs, h4, h5⟩ := (hn c.Y.toNat c.X).2 h3
    refine ⟨⟨(c.Y.toNat : Int), s.a, s.b⟩, ?_, by simp only; omega, h4, h5⟩
    unfold regR outR
    rw [List.mem_flatMap]
    refine ⟨c.Y.toNat, by rw [List.mem_range]; omega, ?_⟩
    unfold rowR
    rw [List.mem_map]
    exact ⟨s, hs, rfl⟩
theorem add_cov {T : Tab} (hT : T.length = 256) {W H y a b : Int} (hH : H ≤ 256) (Y : Nat) (x : Int) : tabCov (T.add W H y a b) Y x ↔ tabCov T Y x ∨ ((0 ≤ y ∧ y ≤ H - 1) ∧ (Y : Int) = y ∧ max 0 a ≤ x ∧ x < min b W) := by
  unfold Tab.add tabCov
  split
  · rename_i hc
    by_cases hY : Y = y.toNat
    · subst hY
      have hlt : y.toNat < T.length := by omega
      rw [show (T.set y.toNat (T.getD y.toNat [] ++ [⟨max 0 a, min b W⟩])).getD y.toNat [] = T.getD y.toNat [] ++ [⟨max 0 a, min b W⟩] by
        rw [List.getD_eq_getElem?_getD, List.getElem?_set_self hlt]; rfl]
      rw [spCov_append, spCov_one]
      constructor
      · rintro (h | h)
        · exact .inl h
        · exact .inr ⟨hc.1, by omega, h⟩
      · rintro (h | h)
        · exact .inl h
        · exact .inr h.2.2
    · rw [show (T.set y.toNat (T.getD y.toNat [] ++ [⟨max 0 a, min b W⟩])).getD Y [] = T.getD Y [] by
        rw [List.getD_eq_getElem?_getD, List.getElem?_set_ne (fun h => hY h.symm)]; simp [List.getD_eq_getElem?_getD]]
      constructor
      · exact .inl
      · rintro (h | h)
        · exact h
        · exfalso; omega
  · rename_i hc
    constructor
    · exact .inl
    · rintro (h | h)
      · exact h
      · exfalso; apply hc; omega
theorem growRow_cov {T : Tab} {W H a b lo : Int} {k : Nat} (hg : Tab.good W k T) (hH : H ≤ 256) (Y : Nat) (x : Int) : ∀ n, tabCov (growRow W H a b lo T n) Y x ↔ tabCov T Y x ∨ ((0 ≤ (Y : Int) ∧ (Y : Int) ≤ H - 1) ∧ lo ≤ Y ∧ (Y : Int) < lo + n ∧ max 0 a ≤ x ∧ x < min b W) := by
  intro n
  induction n with
  | zero =>
    constructor
    · exact .inl
    · rintro (h | h)
      · exact h
      · exfalso; omega
  | succ n ih =>
    rw [growRow_succ, add_cov (growRow_good hg n).len hH, ih]
    constructor
    · rintro ((h | h) | h)
      · exact .inl h
      · exact .inr (by omega)
      · exact .inr (by omega)
    · rintro (h | h)
      · exact .inl (.inl h)
      · by_cases hy : (Y : Int) = lo + n
        · exact .inr (by omega)
        · exact .inl (.inr (by omega))
/-- the cells that a run grows to -/
def inGrow (g : Grid) (l : Lead) (r : Run) (c : Cell) : Prop := (0 ≤ c.Y ∧ c.Y ≤ g.H - 1) ∧ (0 ≤ c.X ∧ c.X < g.W) ∧ (r.Y + l.s ≤ c.Y ∧ c.Y ≤ r.Y + l.n) ∧ r.From + l.w ≤ c.X ∧ c.X < r.To + l.e
theorem grow1_cov {g : Grid} (hH : 1 ≤ g.H ∧ g.H ≤ 256) {T : Tab} {k : Nat} (hg : Tab.good g.W k T) (l : Lead) (r : Run) (c : Cell) (hc : 0 ≤ c.Y) : tabCov (grow1 g l T r) c.Y.toNat c.X ↔ tabCov T c.Y.toNat c.X ∨ inGrow g l r c := by
  unfold grow1 inGrow
  rw [growRow_cov hg hH.2]
  unfold growCnt
  constructor
  · rintro (h | h)
    · exact .inl h
    · exact .inr (by omega)
  · rintro (h | h)
    · exact .inl h
    · exact .inr (by omega)
theorem growT_cov {g : Grid} (hH : 1 ≤ g.H ∧ g.H ≤ 256) (l : Lead) (c : Cell) (hc : 0 ≤ c.Y) : ∀ (rs : List Run) (T : Tab) (k : Nat), Tab.good g.W k T → (tabCov (rs.foldl (grow1 g l) T) c.Y.toNat c.X ↔ tabCov T c.Y.toNat c.X ∨ ∃ r ∈ rs, inGrow g l r c) := by
  intro rs
  induction rs with
  | nil => intro T k _; simp
  | cons r rs ih =>
    intro T k hT
    have h1 : Tab.good g.W (k + growCnt g l r) (grow1 g l T r) := growRow_good hT _
    rw [List.foldl_cons, ih _ _ h1, grow1_cov hH hT l r c hc]
    simp only [List.mem_cons]
    constructor
    · rintro ((h | h) | ⟨q, hq, h⟩)
      · exact .inl h
      · exact .inr ⟨r, .inl rfl, h⟩
      · exact .inr ⟨q, .inr hq, h⟩
    · rintro (h | ⟨q, rfl | hq, h⟩)
      · exact .inl (.inl h)
      · exact .inl (.inr h)
      · exact .inr ⟨q, hq, h⟩
theorem growT_has {g : Grid} (hH : 1 ≤ g.H ∧ g.H ≤ 256) (l : Lead) (rs : List Run) (c : Cell) : hasB (regR (growT g l rs)) c = true ↔ ∃ r ∈ rs, inGrow g l r c := by
  have hg := growT_good hH l rs rs.length (Nat.le_refl _)
  rw [List.take_length] at hg
  rw [regR_has hg]
  constructor
  · rintro ⟨h1, h2, h3⟩
    rcases (growT_cov hH l c h1 rs tab0 0 (tab0_good _)).1 h3 with h | h
    · exact absurd h (tabCov0 _ _)
    · exact h
  · rintro ⟨r, hr, h⟩
    have h1 := h
    unfold inGrow at h1
    exact ⟨h1.1.1, by omega, (growT_cov hH l c h1.1.1 rs tab0 0 (tab0_good _)).2 (.inr ⟨r, hr, h⟩)⟩
end Go.J

namespace Go.J
set_option linter.unusedSimpArgs false
set_option linter.unusedVariables false
def tot (T : Tab) : Nat → Nat
  | 0 => 0
  | y + 1 => tot T y + (T.getD y []).length
theorem outR_tot (T : Tab) : ∀ y, (outR T y).length ≤ tot T y := by
  intro y
  induction y with
  | zero => simp [outR, tot]
  | succ y ih =>
    rw [outR_succ, List.length_append]
    unfold tot
    have : (rowR T y).length ≤ (T.getD y []).length := by
      unfold rowR; rw [List.length_map]; exact norm_len _
    omega
theorem tot_add (T : Tab) (W H a b : Int) (z : Int) : ∀ y, tot (T.add W H z a b) y ≤ tot T y + (if z.toNat < y then 1 else 0) := by
  intro y
  unfold Tab.add
  split
  · induction y with
    | zero => simp [tot]
    | succ y ih =>
      unfold tot
      have hrow : ((T.set z.toNat (T.getD z.toNat [] ++ [⟨max 0 a, min b W⟩])).getD y []).length ≤ (T.getD y []).length + (if z.toNat = y then 1 else 0) := by
        by_cases hy : z.toNat = y
        · subst hy
          rw [if_pos rfl, List.getD_eq_getElem?_getD]
          by_cases hl : z.toNat < T.length
          · rw [List.getElem?_set_self hl]; simp
          · rw [List.getElem?_eq_none (by simp; omega)]; simp
        · rw [if_neg hy, List.getD_eq_getElem?_getD, List.getElem?_set_ne hy]; simp [List.getD_eq_getElem?_getD]
      split at ih <;> split at hrow <;> split <;> omega
  · split <;> omega
theorem tot_growRow (W H a b lo : Int) (T : Tab) (y : Nat) : ∀ n, tot (growRow W H a b lo T n) y ≤ tot T y + n := by
  intro n
  induction n with
  | zero => simp [growRow]
  | succ n ih =>
    rw [growRow_succ]
    have := tot_add (growRow W H a b lo T n) W H a b (lo + n) y
    split at this <;> omega
theorem tot0 : ∀ y, tot tab0 y = 0 := by
  intro y
  induction y with
  | zero => rfl
  | succ y ih =>
    unfold tot
    rw [ih]
    have : tab0.getD y [] = [] := by
      unfold tab0
      rw [List.getD_eq_getElem?_getD, List.getElem?_replicate]
      split <;> rfl
    rw [this]; rfl
/-- one run grows to no more than MaxRuns runs -/
theorem grow_one_fits {g : Grid} (hH : 1 ≤ g.H ∧ g.H ≤ 256) (l : Lead) (r : Run) : regRes (growT g l [r]) = (regR (growT g l [r]), 0) := by
  unfold regRes
  rw [if_pos]
  have h1 := outR_tot (growT g l [r]) 256
  have h2 : tot (growT g l [r]) 256 ≤ 256 := by
    show tot (growRow _ _ _ _ _ tab0 _) 256 ≤ 256
    have := tot_growRow g.W g.H (r.From + l.w) (r.To + l.e) (max 0 (r.Y + l.s)) tab0 256 (growCnt g l r)
    rw [tot0] at this
    have := growCnt_le hH l r
    omega
  unfold regR
  omega
theorem one_ok {g : Grid} {x y : Int} (hx : In64 x) (h : checkedB g [oneR x y] = true) : (0 ≤ x ∧ x < g.W) ∧ (0 ≤ y ∧ y < g.H) ∧ oneR x y = [⟨y, x, x + 1⟩] := by
  obtain ⟨h1, h2⟩ := checkedB_b h
  obtain ⟨hW, hH, hS, _⟩ := Grid.ok_b h1
  have h3 := rightB_mem (h2 (oneR x y) (by simp)) ⟨y, x, w64 (x + 1)⟩ (by simp [oneR])
  simp only at h3
  have h4 : x < 9223372036854775807 := by
    rcases Int.lt_or_le x 9223372036854775807 with h | h
    · exact h
    · exfalso
      have : x = 9223372036854775807 := by unfold In64 at hx; omega
      subst this
      have e : w64 (9223372036854775807 + 1) = -9223372036854775808 := by decide
      rw [e] at h3
      omega
  have h5 : w64 (x + 1) = x + 1 := w64_id (by unfold In64 at *; omega)
  rw [h5] at h3
  refine ⟨by omega, by omega, ?_⟩
  unfold oneR
  rw [h5]
theorem growR_one {g : Grid} {x y : Int} {p : Push} (hx : In64 x) : growR g (oneR x y) p = ([], false, 2) ∨ ((checkedB g [oneR x y] = true ∧ p.ok = true) ∧ growR g (oneR x y) p = (regR (growT g (leadOf g p) (oneR x y)), (oneR x y).any (offB g (leadOf g p)), 0)) := by
  unfold growR
  cases h1 : checkedB g [oneR x y] with
  | false => left; simp
  | true =>
    cases h2 : p.ok with
    | false => left; simp
    | true =>
      right
      refine ⟨⟨rfl, rfl⟩, ?_⟩
      obtain ⟨_, _, h5⟩ := one_ok hx h1
      obtain ⟨h6, _⟩ := checkedB_b h1
      rw [h5, grow_one_fits (Grid.ok_b h6).2.1]
      simp
theorem lead_le {a S low d : Int} (hS : 1 ≤ S) : a + low / S ≤ d ↔ a * S + low ≤ d * S + S - 1 := by
  have h1 := Int.emod_add_mul_ediv low S
  have h2 := Int.emod_nonneg low (show S ≠ 0 by omega)
  have h3 := Int.emod_lt_of_pos low (show 0 < S by omega)
  constructor
  · intro h
    have h4 : (a + low / S) * S ≤ d * S := Int.mul_le_mul_of_nonneg_right h (by omega)
    rw [Int.add_mul, Int.mul_comm (low / S) S] at h4
    omega
  · intro h
    rcases Int.lt_or_le d (a + low / S) with h5 | h5
    · exfalso
      have h6 : (d + 1) * S ≤ (a + low / S) * S := Int.mul_le_mul_of_nonneg_right (by omega) (by omega)
      rw [Int.add_mul, Int.add_mul, Int.mul_comm (low / S) S] at h6
      omega
    · exact h5
theorem lead_ge {a S high d : Int} (hS : 1 ≤ S) : d ≤ a + (S - 1 + high) / S ↔ d * S ≤ a * S + S - 1 + high := by
  have h1 := Int.emod_add_mul_ediv (S - 1 + high) S
  have h2 := Int.emod_nonneg (S - 1 + high) (show S ≠ 0 by omega)
  have h3 := Int.emod_lt_of_pos (S - 1 + high) (show 0 < S by omega)
  constructor
  · intro h
    have h4 : d * S ≤ (a + (S - 1 + high) / S) * S := Int.mul_le_mul_of_nonneg_right h (by omega)
    rw [Int.add_mul, Int.mul_comm ((S - 1 + high) / S) S] at h4
    omega
  · intro h
    rcases Int.lt_or_le (a + (S - 1 + high) / S) d with h5 | h5
    · exfalso
      have h6 : (a + (S - 1 + high) / S + 1) * S ≤ d * S := Int.mul_le_mul_of_nonneg_right (by omega) (by omega)
      rw [Int.add_mul, Int.add_mul, Int.mul_comm ((S - 1 + high) / S) S] at h6
      omega
    · exact h5
def reachesB (g : Grid) (p : Push) (c d : Cell) : Bool := reachB (c.X * g.S) (d.X * g.S) g.S p.Low.X p.High.X && reachB (c.Y * g.S) (d.Y * g.S) g.S p.Low.Y p.High.Y
theorem tight_grow {g : Grid} {p : Push} {c d : Cell} (hc : In64 c.X) (hd : In64 d.X) (h : (growR g (oneR c.X c.Y) p).2.2 = 0) (h' : (backR g (oneR d.X d.Y) p).2 = 0) :
    (0 ≤ c.X ∧ c.X < g.W) ∧ (0 ≤ c.Y ∧ c.Y < g.H) ∧ (0 ≤ d.X ∧ d.X < g.W) ∧ (0 ≤ d.Y ∧ d.Y < g.H) ∧ g.ok = true ∧ p.ok = true ∧ hasB (growR g (oneR c.X c.Y) p).1 d = reachesB g p c d ∧ hasB (backR g (oneR d.X d.Y) p).1 c = reachesB g p c d := by
  rcases growR_one (g := g) (y := c.Y) (p := p) hc with h1 | ⟨⟨h1, hp⟩, h2⟩
  · rw [h1] at h; cases h
  · unfold backR at h' ⊢
    rw [if_pos hp] at h' ⊢
    simp only at h' ⊢
    rcases growR_one (g := g) (y := d.Y) (p := ⟨⟨-p.High.X, -p.High.Y⟩, ⟨-p.Low.X, -p.Low.Y⟩⟩) hd with h3 | ⟨⟨h3, hp'⟩, h4⟩
    · rw [h3] at h'; cases h'
    · obtain ⟨c1, c2, c3⟩ := one_ok hc h1
      obtain ⟨d1, d2, d3⟩ := one_ok hd h3
      obtain ⟨hgok, _⟩ := checkedB_b h1
      obtain ⟨hW, hH, hS, _⟩ := Grid.ok_b hgok
      refine ⟨c1, c2, d1, d2, hgok, hp, ?_, ?_⟩
      · rw [h2]
        simp only
        rw [Bool.eq_iff_iff, growT_has hH, c3]
        simp only [List.mem_singleton, exists_eq_left, inGrow, leadOf, reachesB, reachB, Bool.and_eq_true, decide_eq_true_eq]
        have e1 := lead_le (a := c.X) (low := p.Low.X) (d := d.X) hS.1
        have e2 := lead_ge (a := c.X) (high := p.High.X) (d := d.X) hS.1
        have e3 := lead_le (a := c.Y) (low := p.Low.Y) (d := d.Y) hS.1
        have e4 := lead_ge (a := c.Y) (high := p.High.Y) (d := d.Y) hS.1
        constructor
        · rintro ⟨_, _, ⟨q1, q2⟩, q3, q4⟩
          have := e1.1 q3; have := e2.1 (by omega); have := e3.1 q1; have := e4.1 q2
          omega
        · rintro ⟨⟨q1, q2⟩, q3, q4⟩
          have := e1.2 (by omega); have := e2.2 (by omega); have := e3.2 (by omega); have := e4.2 (by omega)
          omega
      · rw [h4]
        simp only
        rw [Bool.eq_iff_iff, growT_has hH, d3]
        simp only [List.mem_singleton, exists_eq_left, inGrow, leadOf, reachesB, reachB, Bool.and_eq_true, decide_eq_true_eq]
        have e1 := lead_le (a := d.X) (low := -p.High.X) (d := c.X) hS.1
        have e2 := lead_ge (a := d.X) (high := -p.Low.X) (d := c.X) hS.1
        have e3 := lead_le (a := d.Y) (low := -p.High.Y) (d := c.Y) hS.1
        have e4 := lead_ge (a := d.Y) (high := -p.Low.Y) (d := c.Y) hS.1
        constructor
        · rintro ⟨_, _, ⟨q1, q2⟩, q3, q4⟩
          have := e1.1 q3; have := e2.1 (by omega); have := e3.1 q1; have := e4.1 q2
          omega
        · rintro ⟨⟨q1, q2⟩, q3, q4⟩
          have := e1.2 (by omega); have := e2.2 (by omega); have := e3.2 (by omega); have := e4.2 (by omega)
          omega
theorem tight_err {g : Grid} {p : Push} {c d : Cell} (hc : In64 c.X) (hd : In64 d.X) : ((growR g (oneR c.X c.Y) p).2.2 = 0 ∨ (growR g (oneR c.X c.Y) p).2.2 = 2) ∧ ((backR g (oneR d.X d.Y) p).2 = 0 ∨ (backR g (oneR d.X d.Y) p).2 = 2) := by
  constructor
  · rcases growR_one (g := g) (y := c.Y) (p := p) hc with h1 | ⟨_, h2⟩
    · right; rw [h1]
    · left; rw [h2]
  · unfold backR
    split
    · rcases growR_one (g := g) (y := d.Y) (p := ⟨⟨-p.High.X, -p.High.Y⟩, ⟨-p.Low.X, -p.Low.Y⟩⟩) hd with h1 | ⟨_, h2⟩
      · right; rw [h1]
      · left; rw [h2]
    · right; rfl
theorem growR_len (g : Grid) (r : List Run) (p : Push) : (growR g r p).1.length ≤ 8192 := by
  unfold growR
  split
  · split
    · unfold regRes; split <;> simp_all
    · simp
  · simp
theorem backR_len (g : Grid) (r : List Run) (p : Push) : (backR g r p).1.length ≤ 8192 := by
  unfold backR
  split
  · exact growR_len _ _ _
  · simp
end Go.J

namespace Go.J
open Go.RowKit Go.Proofs
set_option maxRecDepth 8000
set_option linter.unusedSimpArgs false
set_option linter.unusedVariables false
theorem nilSl (w : World) : Sl (Prod.fst : Value × List Run → Value) (false, 1) w (.slice none 0 0) [] := ⟨by simp, none, 0, rfl, .inl rfl⟩
theorem mul_bd {a b M : Int} (h1 : 0 ≤ a) (h2 : a ≤ 256) (h3 : 0 ≤ b) (h4 : b ≤ 50000) : 0 ≤ a * b ∧ a * b ≤ 12800000 :=
  ⟨Int.mul_nonneg h1 h3, by have := Int.mul_le_mul h2 h4 h3 (by omega : (0 : Int) ≤ 256); omega⟩
theorem gridTight_w (g : Grid) (lv : Value) (p : Push) (c d : Cell) (w : World) (hl : SlR w lv g.land) (hc : In64 c.X) (hd : In64 d.X) :
    Pur Try.prog 7 #[g.ev lv, p.ev, c.ev, d.ev] w (.bool true) := by
  refine pur_J (args := [g.ev lv, p.ev, c.ev, d.ev]) Try.func7 rfl Try.ntmps7 rfl ?_
  have H := Own.start w
  ((repeat refine JC.seq ?_); refine JC.region ?_)
  refine JL.box H rfl rfl rfl ?_
  intro b4 w1 H
  refine JL.box H rfl rfl rfl ?_
  intro b5 w2 H
  refine JL.box H rfl rfl rfl ?_
  intro b6 w3 H
  refine JL.box H rfl rfl rfl ?_
  intro b7 w4 H
  refine JL.pure rfl rfl ?_
  refine JL.nil ?_
  ((repeat refine Ex.normal_block ?_); refine Ex.next ?_)
  ((repeat refine JC.seq ?_); refine JC.region ?_)
  refine JL.callP H fb40 rfl rfl (alive_c _) ?_
  intro w5 H _
  refine JL.pure rfl rfl ?_
  refine JL.nil ?_
  ((repeat refine Ex.normal_block ?_); refine Ex.next ?_)
  ((repeat refine JC.seq ?_); refine JC.region ?_)
  refine JL.loadB 3 H rfl sh52 rfl rfl rfl ?_
  refine JL.callP H fb41 rfl rfl (great_c g lv _ 4096 [] _ (hl.grow H.below) (nilSl _) (by simp)) ?_
  intro w6 H _
  refine JL.pure rfl rfl ?_
  refine JL.cases 19 rfl ?_ ?_
  · intro h19
    (try simp only [Bool.not_eq_true', Bool.not_eq_false', decide_eq_true_eq, decide_eq_false_iff_not] at h19)
    refine JL.pass rfl rfl rfl rfl ?_
    refine JL.pass rfl rfl rfl rfl ?_
    refine JL.pure rfl rfl ?_
    refine JL.nil ?_
    ((repeat refine Ex.normal_block ?_); refine Ex.next ?_)
    ((repeat refine JC.seq ?_); refine JC.cond rfl (fun _ => ?_) (fun h => by cases h))
    ((repeat refine JC.seq ?_); refine JC.region ?_)
    refine JL.pure rfl rfl ?_
    refine JL.pure rfl rfl ?_
    refine JL.nil ?_
    ((repeat refine Ex.normal_block ?_); refine Ex.next ?_)
    ((repeat refine JC.seq ?_); refine JC.ret ?_)
    (repeat (first | refine Ex.ret_then ?_ | refine Ex.ret_block ?_))
    refine Ex.ret1 rfl (.tmp rfl) ⟨?_, H.below⟩
    have herr := tight_err (g := g) (p := p) (c := c) (d := d) hc hd
    first | rfl | (congr 2; simp at *; omega)
  · intro h19
    (try simp only [Bool.not_eq_true', Bool.not_eq_false', decide_eq_true_eq, decide_eq_false_iff_not] at h19)
    refine JL.want rfl rfl ?_
    refine JL.pure rfl rfl ?_
    refine JL.want rfl rfl ?_
    refine JL.pure rfl rfl ?_
    refine JL.pure rfl rfl ?_
    refine JL.nil ?_
    ((repeat refine Ex.normal_block ?_); refine Ex.next ?_)
    ((repeat refine JC.seq ?_); refine JC.cond rfl (fun h => by cases h) (fun _ => ?_))
    ((repeat refine JC.seq ?_); refine JC.skip ?_)
    ((repeat refine Ex.normal_block ?_); refine Ex.next ?_)
    ((repeat refine JC.seq ?_); refine JC.drawS H mixed ?_)
    intro w7 H
    refine DR.any 0 7 H (by kernel_rfl) ?_
    refine JD.loadB 3 rfl sh52 rfl rfl rfl ?_
    refine JD.fieldAddr rfl Try.underlying62 rfl sh3 rfl ?_
    refine JD.loadB 1 rfl sh3 rfl rfl rfl ?_
    refine JD.fieldAddr rfl Try.underlying62 rfl sh3 rfl ?_
    refine JD.loadB 1 rfl sh3 rfl rfl rfl ?_
    refine JD.callN (fun v => runRow v (oneR c.X c.Y)) fb45 rfl rfl (fun w1 hw => one_c _ _ w1) ?_
    refine JD.loadB 2 rfl sh54 rfl rfl rfl ?_
    refine JD.nil ?_
    intro w8 v30 H
    simp only [Option.isSome_none, Option.isSome_some, cond_false, cond_true] at H
    show DR _ _ _ _ _ _ _
    refine DR.op rfl (by kernel_rfl) ?_
    refine JL.call fb43 rfl rfl (grow_c g lv v30 (oneR c.X c.Y) p _ (hl.grow H.below) (runSl H (j := 0) rfl (by simp [oneR]))) ?_
    rintro _ w9 ⟨gv, rfl, K⟩
    have H := H.join K
    refine ⟨_, rfl, ?_⟩
    refine DR.next ?_
    refine DR.any 8 15 H (by kernel_rfl) ?_
    refine JD.pure rfl rfl ?_
    refine JD.pure rfl rfl ?_
    refine JD.pure rfl rfl ?_
    refine JD.pure rfl rfl ?_
    refine JD.pure rfl rfl ?_
    refine JD.pure rfl rfl ?_
    refine JD.pure rfl rfl ?_
    refine JD.nil ?_
    intro w10 H
    show DR _ _ _ _ _ _ _
    refine DR.done rfl ?_
    ((repeat refine Ex.normal_block ?_); refine Ex.next ?_)
    ((repeat refine JC.seq ?_); refine JC.drawS H mixed ?_)
    intro w11 H
    refine DR.any 0 7 H (by kernel_rfl) ?_
    refine JD.loadB 5 rfl sh52 rfl rfl rfl ?_
    refine JD.fieldAddr rfl Try.underlying62 rfl sh3 rfl ?_
    refine JD.loadB 2 rfl sh3 rfl rfl rfl ?_
    refine JD.fieldAddr rfl Try.underlying62 rfl sh3 rfl ?_
    refine JD.loadB 2 rfl sh3 rfl rfl rfl ?_
    refine JD.callN (fun v => runRow v (oneR d.X d.Y)) fb45 rfl rfl (fun w1 hw => one_c _ _ w1) ?_
    refine JD.loadB 4 rfl sh54 rfl rfl rfl ?_
    refine JD.nil ?_
    intro w12 v42 H
    simp only [Option.isSome_none, Option.isSome_some, cond_false, cond_true] at H
    show DR _ _ _ _ _ _ _
    refine DR.op rfl (by kernel_rfl) ?_
    refine JL.call fb46 rfl rfl (back_c g lv v42 (oneR d.X d.Y) p _ (hl.grow H.below) (runSl H (j := 0) rfl (by simp [oneR]))) ?_
    rintro _ w13 ⟨bv, rfl, K⟩
    have H := H.join K
    refine ⟨_, rfl, ?_⟩
    refine DR.next ?_
    refine DR.any 8 13 H (by kernel_rfl) ?_
    refine JD.pure rfl rfl ?_
    refine JD.pure rfl rfl ?_
    refine JD.pure rfl rfl ?_
    refine JD.pure rfl rfl ?_
    refine JD.pure rfl rfl ?_
    refine JD.nil ?_
    intro w14 H
    show DR _ _ _ _ _ _ _
    refine DR.done rfl ?_
    ((repeat refine Ex.normal_block ?_); refine Ex.next ?_)
    ((repeat refine JC.seq ?_); refine JC.region ?_)
    refine JL.pure rfl rfl ?_
    refine JL.pure rfl rfl ?_
    refine JL.pure rfl rfl ?_
    refine JL.cases 49 rfl ?_ ?_
    · intro h49
      (try simp only [Bool.not_eq_true', Bool.not_eq_false', decide_eq_true_eq, decide_eq_false_iff_not] at h49)
      refine JL.pass rfl rfl rfl rfl ?_
      refine JL.pass rfl rfl rfl rfl ?_
      refine JL.pure rfl rfl ?_
      refine JL.nil ?_
      ((repeat refine Ex.normal_block ?_); refine Ex.next ?_)
      ((repeat refine JC.seq ?_); refine JC.cond rfl (fun _ => ?_) (fun h => by cases h))
      ((repeat refine JC.seq ?_); refine JC.region ?_)
      refine JL.pure rfl rfl ?_
      refine JL.pure rfl rfl ?_
      refine JL.want rfl rfl ?_
      refine JL.pure rfl rfl ?_
      refine JL.want rfl rfl ?_
      refine JL.pure rfl rfl ?_
      refine JL.want rfl rfl ?_
      refine JL.pure rfl rfl ?_
      refine JL.cases 57 rfl ?_ ?_
      · intro h57
        (try simp only [Bool.not_eq_true', Bool.not_eq_false', decide_eq_true_eq, decide_eq_false_iff_not] at h57)
        refine JL.pass rfl rfl rfl rfl ?_
        refine JL.pass rfl rfl rfl rfl ?_
        refine JL.want rfl rfl ?_
        refine JL.pure rfl rfl ?_
        refine JL.pure rfl rfl ?_
        refine JL.pure rfl rfl ?_
        refine JL.nil ?_
        ((repeat refine Ex.normal_block ?_); refine Ex.next ?_)
        ((repeat refine JC.seq ?_); refine JC.ret ?_)
        (repeat (first | refine Ex.ret_then ?_ | refine Ex.ret_block ?_))
        refine Ex.ret1 rfl (.tmp rfl) ⟨?_, H.below⟩
        have herr := tight_err (g := g) (p := p) (c := c) (d := d) hc hd
        first | rfl | (congr 2; simp at *; omega)
      · intro h57
        (try simp only [Bool.not_eq_true', Bool.not_eq_false', decide_eq_true_eq, decide_eq_false_iff_not] at h57)
        refine JL.want rfl rfl ?_
        refine JL.pure rfl rfl ?_
        refine JL.want rfl rfl ?_
        refine JL.pure rfl rfl ?_
        refine JL.want rfl rfl ?_
        refine JL.pure rfl rfl ?_
        refine JL.pure rfl rfl ?_
        refine JL.pure rfl rfl ?_
        refine JL.nil ?_
        ((repeat refine Ex.normal_block ?_); refine Ex.next ?_)
        ((repeat refine JC.seq ?_); refine JC.ret ?_)
        (repeat (first | refine Ex.ret_then ?_ | refine Ex.ret_block ?_))
        refine Ex.ret1 rfl (.tmp rfl) ⟨?_, H.below⟩
        have herr := tight_err (g := g) (p := p) (c := c) (d := d) hc hd
        first | rfl | (congr 2; simp at *; omega)
    · intro h49
      (try simp only [Bool.not_eq_true', Bool.not_eq_false', decide_eq_true_eq, decide_eq_false_iff_not] at h49)
      refine JL.want rfl rfl ?_
      refine JL.pure rfl rfl ?_
      refine JL.want rfl rfl ?_
      refine JL.pure rfl rfl ?_
      refine JL.pure rfl rfl ?_
      refine JL.nil ?_
      ((repeat refine Ex.normal_block ?_); refine Ex.next ?_)
      ((repeat refine JC.seq ?_); refine JC.cond rfl ?_ ?_)
      · intro h52
        (try simp only [Bool.not_eq_true', Bool.not_eq_false', decide_eq_true_eq, decide_eq_false_iff_not] at h52)
        
        ((repeat refine JC.seq ?_); refine JC.region ?_)
        refine JL.pure rfl rfl ?_
        refine JL.pure rfl rfl ?_
        refine JL.want rfl rfl ?_
        refine JL.pure rfl rfl ?_
        refine JL.want rfl rfl ?_
        refine JL.pure rfl rfl ?_
        refine JL.want rfl rfl ?_
        refine JL.pure rfl rfl ?_
        refine JL.cases 57 rfl ?_ ?_
        · intro h57
          (try simp only [Bool.not_eq_true', Bool.not_eq_false', decide_eq_true_eq, decide_eq_false_iff_not] at h57)
          refine JL.pass rfl rfl rfl rfl ?_
          refine JL.pass rfl rfl rfl rfl ?_
          refine JL.want rfl rfl ?_
          refine JL.pure rfl rfl ?_
          refine JL.pure rfl rfl ?_
          refine JL.pure rfl rfl ?_
          refine JL.nil ?_
          ((repeat refine Ex.normal_block ?_); refine Ex.next ?_)
          ((repeat refine JC.seq ?_); refine JC.ret ?_)
          (repeat (first | refine Ex.ret_then ?_ | refine Ex.ret_block ?_))
          refine Ex.ret1 rfl (.tmp rfl) ⟨?_, H.below⟩
          have herr := tight_err (g := g) (p := p) (c := c) (d := d) hc hd
          first | rfl | (congr 2; simp at *; omega)
        · intro h57
          (try simp only [Bool.not_eq_true', Bool.not_eq_false', decide_eq_true_eq, decide_eq_false_iff_not] at h57)
          refine JL.want rfl rfl ?_
          refine JL.pure rfl rfl ?_
          refine JL.want rfl rfl ?_
          refine JL.pure rfl rfl ?_
          refine JL.want rfl rfl ?_
          refine JL.pure rfl rfl ?_
          refine JL.pure rfl rfl ?_
          refine JL.pure rfl rfl ?_
          refine JL.nil ?_
          ((repeat refine Ex.normal_block ?_); refine Ex.next ?_)
          ((repeat refine JC.seq ?_); refine JC.ret ?_)
          (repeat (first | refine Ex.ret_then ?_ | refine Ex.ret_block ?_))
          refine Ex.ret1 rfl (.tmp rfl) ⟨?_, H.below⟩
          have herr := tight_err (g := g) (p := p) (c := c) (d := d) hc hd
          first | rfl | (congr 2; simp at *; omega)
      · intro h52
        (try simp only [Bool.not_eq_true', Bool.not_eq_false', decide_eq_true_eq, decide_eq_false_iff_not] at h52)
        have hge : (growR g (oneR c.X c.Y) p).2.2 = 0 := by omega
        have hbe : (backR g (oneR d.X d.Y) p).2 = 0 := by omega
        obtain ⟨c1, c2, d1, d2, hgok, hpok, hmain1, hmain2⟩ := tight_grow hc hd hge hbe
        obtain ⟨hgW, hgH, hgS, hgl⟩ := Grid.ok_b hgok
        have hpb : (-16777216 ≤ p.Low.X ∧ p.Low.X ≤ p.High.X) ∧ (-16777216 ≤ p.Low.Y ∧ p.Low.Y ≤ p.High.Y) ∧ max p.High.X p.High.Y ≤ 16777216 := by
          have := hpok
          unfold Push.ok at this
          simpa [and_assoc] using this
        have m1 := mul_bd (M := 0) c1.1 (by omega) (show 0 ≤ g.S by omega) hgS.2
        have m2 := mul_bd (M := 0) d1.1 (by omega) (show 0 ≤ g.S by omega) hgS.2
        have m3 := mul_bd (M := 0) c2.1 (by omega) (show 0 ≤ g.S by omega) hgS.2
        have m4 := mul_bd (M := 0) d2.1 (by omega) (show 0 ≤ g.S by omega) hgS.2
        ((repeat refine JC.seq ?_); refine JC.skip ?_)
        ((repeat refine Ex.normal_block ?_); refine Ex.next ?_)
        ((repeat refine JC.seq ?_); refine JC.regionTo ([(9, .bool true), (10, gv), (13, bv), (4, .pointer (some ⟨b4, 0, none⟩)), (6, .pointer (some ⟨b6, 0, none⟩)), (7, .pointer (some ⟨b7, 0, none⟩)), (15, .bool (reachesB g p c d))]) (fun wr => Own w wr [runRow bv (backR g (oneR d.X d.Y) p).1, runRow v42 (oneR d.X d.Y), runRow gv (growR g (oneR c.X c.Y) p).1, runRow v30 (oneR c.X c.Y), blk b7 (.cells ⟨[.int .i64 d.X, .int .i64 d.Y]⟩ 62 (0, 0)), blk b6 (.cells ⟨[.int .i64 c.X, .int .i64 c.Y]⟩ 62 (0, 0)), blk b5 (.cells ⟨[.int .i64 p.Low.X, .int .i64 p.Low.Y, .int .i64 p.High.X, .int .i64 p.High.Y]⟩ 54 (0, 0)), blk b4 (.cells ⟨[.int .i64 g.W, .int .i64 g.H, .int .i64 g.S, lv]⟩ 52 (0, 0))]) ?_ ?_)
        ·
          refine JL.fieldAddr rfl Try.underlying62 rfl sh3 rfl ?_
          refine JL.loadB 5 H rfl sh3 rfl rfl rfl ?_
          refine JL.fieldAddr rfl Try.underlying52 rfl sh3 rfl ?_
          refine JL.loadB 7 H rfl sh3 rfl rfl rfl ?_
          refine JL.arith rfl (by unfold In64; omega) rfl ?_
          refine JL.fieldAddr rfl Try.underlying62 rfl sh3 rfl ?_
          refine JL.loadB 4 H rfl sh3 rfl rfl rfl ?_
          refine JL.fieldAddr rfl Try.underlying52 rfl sh3 rfl ?_
          refine JL.loadB 7 H rfl sh3 rfl rfl rfl ?_
          refine JL.arith rfl (by unfold In64; omega) rfl ?_
          refine JL.fieldAddr rfl Try.underlying52 rfl sh3 rfl ?_
          refine JL.loadB 7 H rfl sh3 rfl rfl rfl ?_
          refine JL.fieldAddr rfl Try.underlying54 rfl sh23 rfl ?_
          refine JL.fieldAddr rfl Try.underlying23 rfl sh3 rfl ?_
          refine JL.loadB 6 H rfl sh3 rfl rfl rfl ?_
          refine JL.fieldAddr rfl Try.underlying54 rfl sh23 rfl ?_
          refine JL.fieldAddr rfl Try.underlying23 rfl sh3 rfl ?_
          refine JL.loadB 6 H rfl sh3 rfl rfl rfl ?_
          refine JL.callP H fb47 rfl rfl (reach_c _ _ _ _ _ _ (by omega) (by omega) (by omega) (by omega) (by omega)) ?_
          intro w15 H _
          refine JL.pure rfl rfl ?_
          refine JL.cases 81 rfl ?_ ?_
          · intro h81
            (try simp only [Bool.not_eq_true', Bool.not_eq_false', decide_eq_true_eq, decide_eq_false_iff_not] at h81)
            refine JL.want rfl rfl ?_
            refine JL.fieldAddr rfl Try.underlying62 rfl sh3 rfl ?_
            refine JL.want rfl rfl ?_
            refine JL.loadB 5 H rfl sh3 rfl rfl rfl ?_
            refine JL.want rfl rfl ?_
            refine JL.fieldAddr rfl Try.underlying52 rfl sh3 rfl ?_
            refine JL.want rfl rfl ?_
            refine JL.loadB 7 H rfl sh3 rfl rfl rfl ?_
            refine JL.want rfl rfl ?_
            refine JL.arith rfl (by unfold In64; omega) rfl ?_
            refine JL.want rfl rfl ?_
            refine JL.fieldAddr rfl Try.underlying62 rfl sh3 rfl ?_
            refine JL.want rfl rfl ?_
            refine JL.loadB 4 H rfl sh3 rfl rfl rfl ?_
            refine JL.want rfl rfl ?_
            refine JL.fieldAddr rfl Try.underlying52 rfl sh3 rfl ?_
            refine JL.want rfl rfl ?_
            refine JL.loadB 7 H rfl sh3 rfl rfl rfl ?_
            refine JL.want rfl rfl ?_
            refine JL.arith rfl (by unfold In64; omega) rfl ?_
            refine JL.want rfl rfl ?_
            refine JL.fieldAddr rfl Try.underlying52 rfl sh3 rfl ?_
            refine JL.want rfl rfl ?_
            refine JL.loadB 7 H rfl sh3 rfl rfl rfl ?_
            refine JL.want rfl rfl ?_
            refine JL.fieldAddr rfl Try.underlying54 rfl sh23 rfl ?_
            refine JL.want rfl rfl ?_
            refine JL.fieldAddr rfl Try.underlying23 rfl sh3 rfl ?_
            refine JL.want rfl rfl ?_
            refine JL.loadB 6 H rfl sh3 rfl rfl rfl ?_
            refine JL.want rfl rfl ?_
            refine JL.fieldAddr rfl Try.underlying54 rfl sh23 rfl ?_
            refine JL.want rfl rfl ?_
            refine JL.fieldAddr rfl Try.underlying23 rfl sh3 rfl ?_
            refine JL.want rfl rfl ?_
            refine JL.loadB 6 H rfl sh3 rfl rfl rfl ?_
            refine JL.want rfl rfl ?_
            refine JL.callP H fb47 rfl rfl (reach_c _ _ _ _ _ _ (by omega) (by omega) (by omega) (by omega) (by omega)) ?_
            intro w16 H _
            refine JL.pure rfl rfl ?_
            refine JL.pure rfl rfl ?_
            refine JL.nil ?_
            refine Ex.to ⟨rfl, rfl, rfl, rfl, rfl, rfl, ?_, trivial⟩ H
            show some (Value.bool _) = some (Value.bool _)
            unfold reachesB
            simp [*]
          · intro h81
            (try simp only [Bool.not_eq_true', Bool.not_eq_false', decide_eq_true_eq, decide_eq_false_iff_not] at h81)
            refine JL.pass rfl rfl rfl rfl ?_
            refine JL.pass rfl rfl rfl rfl ?_
            refine JL.pass rfl rfl rfl rfl ?_
            refine JL.pass rfl rfl rfl rfl ?_
            refine JL.pass rfl rfl rfl rfl ?_
            refine JL.pass rfl rfl rfl rfl ?_
            refine JL.pass rfl rfl rfl rfl ?_
            refine JL.pass rfl rfl rfl rfl ?_
            refine JL.pass rfl rfl rfl rfl ?_
            refine JL.pass rfl rfl rfl rfl ?_
            refine JL.pass rfl rfl rfl rfl ?_
            refine JL.pass rfl rfl rfl rfl ?_
            refine JL.pass rfl rfl rfl rfl ?_
            refine JL.pass rfl rfl rfl rfl ?_
            refine JL.pass rfl rfl rfl rfl ?_
            refine JL.pass rfl rfl rfl rfl ?_
            refine JL.pass rfl rfl rfl rfl ?_
            refine JL.pass rfl rfl rfl rfl ?_
            refine JL.pass rfl rfl rfl rfl ?_
            refine JL.pure rfl rfl ?_
            refine JL.pure rfl rfl ?_
            refine JL.nil ?_
            refine Ex.to ⟨rfl, rfl, rfl, rfl, rfl, rfl, ?_, trivial⟩ H
            show some (Value.bool _) = some (Value.bool _)
            unfold reachesB
            simp [*]
        · intro wc H
          ((repeat refine Ex.normal_block ?_); refine Ex.next ?_)
          ((repeat refine JC.seq ?_); refine JC.region ?_)
          refine JL.pure rfl rfl ?_
          refine JL.pure rfl rfl ?_
          refine JL.want rfl rfl ?_
          refine JL.pure rfl rfl ?_
          refine JL.want rfl rfl ?_
          refine JL.loadB 4 H rfl sh62 rfl rfl rfl ?_
          refine JL.want rfl rfl ?_
          refine JL.callP H fb48 rfl rfl (has_c _ (growR g (oneR c.X c.Y) p).1 d _ (runSl H (j := 2) rfl (by have := growR_len g (oneR c.X c.Y) p; omega))) ?_
          intro w17 H _
          refine JL.want rfl rfl ?_
          refine JL.pure rfl rfl ?_
          refine JL.want rfl rfl ?_
          refine JL.eqs rfl rfl (eqBool 4 Try.underlying4 _ _) rfl ?_
          refine JL.re 108 rfl (v' := .bool true) (by rw [hmain1]; simp) ?_
          refine JL.pure rfl rfl ?_
          refine JL.pure rfl rfl ?_
          refine JL.want rfl rfl ?_
          refine JL.pure rfl rfl ?_
          refine JL.want rfl rfl ?_
          refine JL.loadB 5 H rfl sh62 rfl rfl rfl ?_
          refine JL.want rfl rfl ?_
          refine JL.callP H fb48 rfl rfl (has_c _ (backR g (oneR d.X d.Y) p).1 c _ (runSl H (j := 0) rfl (by have := backR_len g (oneR d.X d.Y) p; omega))) ?_
          intro w18 H _
          refine JL.want rfl rfl ?_
          refine JL.pure rfl rfl ?_
          refine JL.want rfl rfl ?_
          refine JL.eqs rfl rfl (eqBool 4 Try.underlying4 _ _) rfl ?_
          refine JL.re 115 rfl (v' := .bool true) (by rw [hmain2]; simp) ?_
          refine JL.pure rfl rfl ?_
          refine JL.pure rfl rfl ?_
          refine JL.nil ?_
          ((repeat refine Ex.normal_block ?_); refine Ex.next ?_)
          ((repeat refine JC.seq ?_); refine JC.ret ?_)
          (repeat (first | refine Ex.ret_then ?_ | refine Ex.ret_block ?_))
          refine Ex.ret1 rfl (.tmp rfl) ⟨?_, H.below⟩
          have herr := tight_err (g := g) (p := p) (c := c) (d := d) hc hd
          first | rfl | (congr 2; simp at *; omega)
end Go.J

namespace Go.J
set_option linter.unusedSimpArgs false
set_option linter.unusedVariables false
/-! plain: a region's runs are known by its cells -/
/-- runs in order, none of which touch, within W times H cells -/
structure Canon (W H : Int) (rs : List Run) : Prop where
  rng : ∀ r ∈ rs, (0 ≤ r.Y ∧ r.Y < H) ∧ 0 ≤ r.From ∧ r.From < r.To ∧ r.To ≤ W
  ord : rs.Pairwise fun r s => r.Y < s.Y ∨ r.Y = s.Y ∧ r.To < s.From
theorem canon_of_rightFrom {W H : Int} : ∀ {rs : List Run} {l : Run}, rightFrom W H l rs = true → Canon W H rs ∧ ∀ r ∈ rs, l.Y < r.Y ∨ l.Y = r.Y ∧ l.To < r.From := by
  intro rs
  induction rs with
  | nil => intro l _; exact ⟨⟨by simp, List.Pairwise.nil⟩, by simp⟩
  | cons x rs ih =>
    intro l h
    simp only [rightFrom, Bool.and_eq_true, decide_eq_true_eq] at h
    obtain ⟨h1, h2⟩ := h
    obtain ⟨h3, h4⟩ := ih h2
    unfold Run.ok at h1
    refine ⟨⟨fun r hr => ?_, List.pairwise_cons.2 ⟨h4, h3.ord⟩⟩, fun r hr => ?_⟩
    · cases hr with
      | head => omega
      | tail _ hr => exact h3.rng r hr
    · cases hr with
      | head => omega
      | tail _ hr => have := h4 r hr; omega
theorem rightFrom_of_canon {W H : Int} : ∀ {rs : List Run} {l : Run}, Canon W H rs → (∀ r ∈ rs, l.Y < r.Y ∨ l.Y = r.Y ∧ l.To < r.From) → rightFrom W H l rs = true := by
  intro rs
  induction rs with
  | nil => intro l _ _; rfl
  | cons x rs ih =>
    intro l h hl
    simp only [rightFrom, Bool.and_eq_true, decide_eq_true_eq]
    have hx := h.rng x (by simp)
    have hlx := hl x (by simp)
    refine ⟨?_, ih ⟨fun r hr => h.rng r (List.mem_cons_of_mem _ hr), (List.pairwise_cons.1 h.ord).2⟩ (List.pairwise_cons.1 h.ord).1⟩
    unfold Run.ok
    omega
theorem right_iff {W H : Int} {rs : List Run} : rightB W H rs = true ↔ Canon W H rs ∧ rs.length ≤ 8192 := by
  unfold rightB
  rw [Bool.and_eq_true, decide_eq_true_eq]
  constructor
  · rintro ⟨h1, h2⟩; exact ⟨(canon_of_rightFrom h1).1, h2⟩
  · rintro ⟨h1, h2⟩
    refine ⟨rightFrom_of_canon h1 fun r hr => ?_, h2⟩
    have := h1.rng r hr
    simp only
    omega
/-- a run as a span of all the grid's cells, row behind row, a place between two rows -/
def toSpan (W : Int) (r : Run) : Span := ⟨r.Y * (W + 1) + r.From, r.Y * (W + 1) + r.To⟩
theorem row_lt {W y y' x : Int} (hW : 0 ≤ W) (h : y < y') (hx : x ≤ W) : y * (W + 1) + x < y' * (W + 1) := by
  have h1 : (y + 1) * (W + 1) ≤ y' * (W + 1) := Int.mul_le_mul_of_nonneg_right (by omega) (by omega)
  rw [Int.add_mul] at h1
  omega
theorem row_inj {W y y' x x' : Int} (hW : 0 ≤ W) (hx : 0 ≤ x ∧ x ≤ W) (hx' : 0 ≤ x' ∧ x' ≤ W) (h : y * (W + 1) + x = y' * (W + 1) + x') : y = y' ∧ x = x' := by
  rcases Int.lt_trichotomy y y' with h1 | h1 | h1
  · have := row_lt hW h1 hx.2; omega
  · subst h1; omega
  · have := row_lt hW h1 hx'.2; omega
theorem Canon.sep {W H : Int} {rs : List Run} (h : Canon W H rs) (hW : 0 ≤ W) : SpSep (rs.map (toSpan W)) := by
  constructor
  · rw [List.pairwise_map]
    have : rs.Pairwise fun r s => r ∈ rs ∧ s ∈ rs ∧ (r.Y < s.Y ∨ r.Y = s.Y ∧ r.To < s.From) := List.Pairwise.imp_of_mem (fun ha hb h => ⟨ha, hb, h⟩) h.ord
    refine this.imp ?_
    rintro r s ⟨hr, hs, h1⟩
    have h2 := h.rng r hr
    have h3 := h.rng s hs
    simp only [toSpan]
    rcases h1 with h1 | ⟨h1, h4⟩
    · have := row_lt hW h1 h2.2.2.2; omega
    · rw [h1]; omega
  · intro s hs
    obtain ⟨r, hr, rfl⟩ := List.mem_map.1 hs
    have := h.rng r hr
    simp only [toSpan]
    omega
theorem Canon.cov {W H : Int} {rs : List Run} (h : Canon W H rs) (hW : 0 ≤ W) {x y : Int} (hx : 0 ≤ x ∧ x ≤ W) : spCov (rs.map (toSpan W)) (y * (W + 1) + x) ↔ hasB rs ⟨x, y⟩ = true := by
  rw [hasB_iff]
  constructor
  · rintro ⟨s, hs, h1, h2⟩
    obtain ⟨r, hr, rfl⟩ := List.mem_map.1 hs
    have h3 := h.rng r hr
    simp only [toSpan] at h1 h2
    have hy : r.Y = y := by
      rcases Int.lt_trichotomy r.Y y with h4 | h4 | h4
      · have := row_lt hW h4 h3.2.2.2; omega
      · exact h4
      · have := row_lt hW h4 hx.2; omega
    subst hy
    exact ⟨r, hr, rfl, by simp only; omega, by simp only; omega⟩
  · rintro ⟨r, hr, h1, h2, h3⟩
    simp only at h1 h2 h3
    subst h1
    exact ⟨_, List.mem_map.2 ⟨r, hr, rfl⟩, by simp only [toSpan]; omega, by simp only [toSpan]; omega⟩
theorem canon_unique {W H : Int} (hW : 0 ≤ W) {a b : List Run} (ha : Canon W H a) (hb : Canon W H b) (h : ∀ c : Cell, hasB a c = true ↔ hasB b c = true) : a = b := by
  have hs : a.map (toSpan W) = b.map (toSpan W) := by
    refine sep_unique _ _ (ha.sep hW) (hb.sep hW) fun n => ?_
    have h1 := Int.emod_add_mul_ediv n (W + 1)
    have h2 := Int.emod_nonneg n (show W + 1 ≠ 0 by omega)
    have h3 := Int.emod_lt_of_pos n (show 0 < W + 1 by omega)
    have h4 : n = n / (W + 1) * (W + 1) + n % (W + 1) := by rw [Int.mul_comm]; omega
    rw [h4, ha.cov hW (by omega), hb.cov hW (by omega)]
    exact h _
  clear h
  induction a generalizing b with
  | nil => cases b with
    | nil => rfl
    | cons y b => cases hs
  | cons x a ih => cases b with
    | nil => cases hs
    | cons y b =>
      simp only [List.map_cons, List.cons.injEq] at hs
      have hx := ha.rng x (by simp)
      have hy := hb.rng y (by simp)
      have e := hs.1
      simp only [toSpan, Span.mk.injEq] at e
      have e1 := row_inj hW (by omega) (by omega) e.1
      have e2 := row_inj hW (by omega) (by omega) e.2
      have hxy : x = y := by
        cases x; cases y
        simp only at e1 e2
        simp [e1.1, e1.2, e2.2]
      rw [hxy, ih ⟨fun r hr => ha.rng r (List.mem_cons_of_mem _ hr), (List.pairwise_cons.1 ha.ord).2⟩ ⟨fun r hr => hb.rng r (List.mem_cons_of_mem _ hr), (List.pairwise_cons.1 hb.ord).2⟩ hs.2]
theorem sep_len : ∀ {l : List Span} {lo hi : Int}, SpSep l → (∀ s ∈ l, lo ≤ s.a ∧ s.b ≤ hi) → lo ≤ hi + 1 → 2 * (l.length : Int) ≤ hi - lo + 1 := by
  intro l
  induction l with
  | nil => intro lo hi _ _ h; simp; omega
  | cons s l ih =>
    intro lo hi h hr _
    have h1 := h.2 s (by simp)
    have h2 := hr s (by simp)
    have h3 := (List.pairwise_cons.1 h.1)
    have h4 := ih (lo := s.b + 1) (hi := hi) ⟨h3.2, fun t ht => h.2 t (List.mem_cons_of_mem _ ht)⟩ (fun t ht => ⟨by have := h3.1 t ht; omega, (hr t (List.mem_cons_of_mem _ ht)).2⟩) (by omega)
    simp only [List.length_cons]
    omega
theorem Canon.len {W H : Int} {rs : List Run} (h : Canon W H rs) (hW : 0 ≤ W) (hH : 1 ≤ H) : 2 * (rs.length : Int) ≤ H * (W + 1) := by
  have h1 := sep_len (lo := 0) (hi := H * (W + 1) - 1) (h.sep hW) (fun s hs => by
    obtain ⟨r, hr, rfl⟩ := List.mem_map.1 hs
    have h2 := h.rng r hr
    simp only [toSpan]
    have h3 : 0 ≤ r.Y * (W + 1) := Int.mul_nonneg (by omega) (by omega)
    have h4 := row_lt hW (show r.Y < H by omega) h2.2.2.2
    omega) (by have := Int.mul_nonneg (show 0 ≤ H by omega) (show 0 ≤ W + 1 by omega); omega)
  simpa using h1
/-- behind row H there is nothing -/
def Tab.low (H : Int) (T : Tab) : Prop := ∀ y : Nat, H ≤ y → T.getD y [] = []
theorem tab0_low (H : Int) : Tab.low H tab0 := by
  intro y _
  unfold tab0
  rw [List.getD_eq_getElem?_getD, List.getElem?_replicate]
  split <;> rfl
theorem Tab.low.add {H : Int} {T : Tab} (h : Tab.low H T) (W y a b : Int) : Tab.low H (T.add W H y a b) := by
  intro Y hY
  unfold Tab.add
  split
  · rename_i hc
    rw [List.getD_eq_getElem?_getD, List.getElem?_set_ne (by omega), ← List.getD_eq_getElem?_getD]
    exact h Y hY
  · exact h Y hY
theorem outR_canon {W : Int} {k : Nat} {T : Tab} (hg : Tab.good W k T) {H : Int} (hl : Tab.low H T) : ∀ y, Canon W H (outR T y) ∧ ∀ r ∈ outR T y, r.Y < y := by
  have hrow : ∀ y, SpSep (norm (T.getD y [])) ∧ ∀ s ∈ norm (T.getD y []), 0 ≤ s.a ∧ s.b ≤ W := by
    intro y
    have h1 := norm_ok (l := T.getD y []) fun s hs => by
      obtain ⟨l, hl, hs'⟩ := mem_getD hs
      exact (hg.ne l hl s hs').1
    refine ⟨h1.1, fun s hs => ?_⟩
    have h2 := h1.1.2 s hs
    obtain ⟨t, ht, h3, h4⟩ := (h1.2 s.a).1 ⟨s, hs, by omega, h2⟩
    obtain ⟨u, hu, h5, h6⟩ := (h1.2 (s.b - 1)).1 ⟨s, hs, by omega, by omega⟩
    obtain ⟨l, hl, ht'⟩ := mem_getD ht
    obtain ⟨l', hl', hu'⟩ := mem_getD hu
    have := hg.ne l hl t ht'
    have := hg.ne l' hl' u hu'
    omega
  intro y
  induction y with
  | zero => exact ⟨⟨by simp [outR], by simp [outR]⟩, by simp [outR]⟩
  | succ y ih =>
    rw [outR_succ]
    have hmem : ∀ r ∈ rowR T y, r.Y = y ∧ ∃ s ∈ norm (T.getD y []), r.From = s.a ∧ r.To = s.b := by
      intro r hr
      unfold rowR at hr
      obtain ⟨s, hs, rfl⟩ := List.mem_map.1 hr
      exact ⟨rfl, s, hs, rfl, rfl⟩
    refine ⟨⟨fun r hr => ?_, ?_⟩, fun r hr => ?_⟩
    · rcases List.mem_append.1 hr with hr | hr
      · exact ih.1.rng r hr
      · obtain ⟨h1, s, hs, h2, h3⟩ := hmem r hr
        have h4 := (hrow y).2 s hs
        have h5 := (hrow y).1.2 s hs
        have h6 : (y : Int) < H := by
          rcases Int.lt_or_le y H with h | h
          · exact h
          · rw [hl y h] at hs
            cases hs
        omega
    · rw [List.pairwise_append]
      refine ⟨ih.1.ord, ?_, fun r hr s hs => ?_⟩
      · unfold rowR
        rw [List.pairwise_map]
        exact (hrow y).1.1.imp fun h => .inr ⟨rfl, h⟩
      · have := ih.2 r hr
        have := (hmem s hs).1
        left; omega
    · rcases List.mem_append.1 hr with hr | hr
      · have := ih.2 r hr; omega
      · have := (hmem r hr).1; omega
theorem regR_canon {W : Int} {k : Nat} {T : Tab} (hg : Tab.good W k T) {H : Int} (hl : Tab.low H T) : Canon W H (regR T) := (outR_canon hg hl 256).1
theorem regR_right {W : Int} {k : Nat} {T : Tab} (hg : Tab.good W k T) {H : Int} (hl : Tab.low H T) (h : (regR T).length ≤ 8192) : rightB W H (regR T) = true := right_iff.2 ⟨regR_canon hg hl, h⟩
/-- a small grid's regions fit -/
theorem regRes_fits {W : Int} {k : Nat} {T : Tab} (hg : Tab.good W k T) {H : Int} (hl : Tab.low H T) (hW : 1 ≤ W) (hH : 1 ≤ H) (hWH : W * H ≤ 4096) : regRes T = (regR T, 0) ∧ (regR T).length ≤ 4096 ∧ rightB W H (regR T) = true := by
  have h1 := (regR_canon hg hl).len (by omega) hH
  have h2 : H ≤ W * H := by
    have := Int.mul_le_mul_of_nonneg_right hW (show 0 ≤ H by omega)
    omega
  rw [Int.mul_add, Int.mul_comm H W] at h1
  have h3 : (regR T).length ≤ 4096 := by omega
  refine ⟨?_, h3, regR_right hg hl (by omega)⟩
  unfold regRes
  rw [if_pos (by omega)]
end Go.J

namespace Go.J
set_option linter.unusedSimpArgs false
set_option linter.unusedVariables false
/-! plain: unions, meets, differences and growing, by cells -/
theorem bothN_cov {W H : Int} (hH : H ≤ 256) : ∀ (n : Nat) (T : Tab) (a b : List Run), T.length = 256 → Canon W H a → Canon W H b → a.length + b.length ≤ n → ∀ (Y : Nat) (x : Int),
    tabCov (bothN W H n T a b) Y x ↔ tabCov T Y x ∨ ∃ r ∈ a, ∃ s ∈ b, (r.Y = Y ∧ s.Y = Y) ∧ (r.From ≤ x ∧ x < r.To) ∧ s.From ≤ x ∧ x < s.To := by
  intro n
  induction n with
  | zero =>
    intro T a b _ _ _ hn Y x
    have : a = [] := List.eq_nil_of_length_eq_zero (by omega)
    subst this
    cases b <;> simp [bothN]
  | succ n ih =>
    intro T a b hT ha hb hn Y X
    cases a with
    | nil => cases b <;> simp [bothN]
    | cons x a =>
      cases b with
      | nil => simp [bothN]
      | cons y b =>
        have hx := ha.rng x (by simp)
        have hy := hb.rng y (by simp)
        have ha' : Canon W H a := ⟨fun r hr => ha.rng r (List.mem_cons_of_mem _ hr), (List.pairwise_cons.1 ha.ord).2⟩
        have hb' : Canon W H b := ⟨fun r hr => hb.rng r (List.mem_cons_of_mem _ hr), (List.pairwise_cons.1 hb.ord).2⟩
        have hax := (List.pairwise_cons.1 ha.ord).1
        have hby := (List.pairwise_cons.1 hb.ord).1
        rw [bothN]
        obtain ⟨T', hT'⟩ : ∃ T', T' = if x.Y = y.Y then T.add W H x.Y (max x.From y.From) (min x.To y.To) else T := ⟨_, rfl⟩
        rw [← hT']
        have hl : T'.length = 256 := by rw [hT']; split <;> simp [Tab.add_len, hT]
        have hcov : tabCov T' Y X ↔ tabCov T Y X ∨ ((x.Y = Y ∧ y.Y = Y) ∧ (x.From ≤ X ∧ X < x.To) ∧ y.From ≤ X ∧ X < y.To) := by
          rw [hT']
          split
          · rw [add_cov hT hH]
            constructor
            · rintro (h | h)
              · exact .inl h
              · exact .inr (by omega)
            · rintro (h | h)
              · exact .inl h
              · exact .inr (by omega)
          · constructor
            · exact .inl
            · rintro (h | h)
              · exact h
              · exfalso; omega
        simp only [List.length_cons] at hn
        split
        · rename_i hc
          rw [ih T' a (y :: b) hl ha' hb (by simp only [List.length_cons]; omega) Y X, hcov]
          constructor
          · rintro ((h | h) | ⟨r, hr, s, hs, h⟩)
            · exact .inl h
            · exact .inr ⟨x, by simp, y, by simp, h⟩
            · exact .inr ⟨r, List.mem_cons_of_mem _ hr, s, hs, h⟩
          · rintro (h | ⟨r, hr, s, hs, h⟩)
            · exact .inl (.inl h)
            · cases hr with
              | head =>
                cases hs with
                | head => exact .inl (.inr h)
                | tail _ hs => have := hby s hs; exfalso; omega
              | tail _ hr => exact .inr ⟨r, hr, s, hs, h⟩
        · rename_i hc
          rw [ih T' (x :: a) b hl ha hb' (by simp only [List.length_cons]; omega) Y X, hcov]
          constructor
          · rintro ((h | h) | ⟨r, hr, s, hs, h⟩)
            · exact .inl h
            · exact .inr ⟨x, by simp, y, by simp, h⟩
            · exact .inr ⟨r, hr, s, List.mem_cons_of_mem _ hs, h⟩
          · rintro (h | ⟨r, hr, s, hs, h⟩)
            · exact .inl (.inl h)
            · cases hs with
              | head =>
                cases hr with
                | head => exact .inl (.inr h)
                | tail _ hr => have := hax r hr; exfalso; omega
              | tail _ hs => exact .inr ⟨r, hr, s, hs, h⟩
theorem bothN_low {W H : Int} : ∀ (n : Nat) (T : Tab) (a b : List Run), Tab.low H T → Tab.low H (bothN W H n T a b) := by
  intro n
  induction n with
  | zero => intro T a b h; cases a <;> cases b <;> exact h
  | succ n ih =>
    intro T a b h
    cases a with
    | nil => exact h
    | cons x a => cases b with
      | nil => exact h
      | cons y b =>
        rw [bothN]
        have h' : Tab.low H (if x.Y = y.Y then T.add W H x.Y (max x.From y.From) (min x.To y.To) else T) := by
          split
          · exact h.add _ _ _ _
          · exact h
        split <;> exact ih _ _ _ h'
/-- a cell of the grid -/
def inG (g : Grid) (c : Cell) : Prop := (0 ≤ c.X ∧ c.X < g.W) ∧ 0 ≤ c.Y ∧ c.Y < g.H
theorem canon_inG {g : Grid} {rs : List Run} (h : Canon g.W g.H rs) {c : Cell} (hc : hasB rs c = true) : inG g c := by
  obtain ⟨r, hr, h1, h2, h3⟩ := hasB_iff.1 hc
  have := h.rng r hr
  unfold inG
  omega
theorem both_has {g : Grid} (hg : g.ok = true) {a b : List Run} (ha : Canon g.W g.H a) (hb : Canon g.W g.H b) (c : Cell) : hasB (regR (bothT g.W g.H tab0 a b)) c = true ↔ hasB a c = true ∧ hasB b c = true := by
  obtain ⟨hW, hH, _, _⟩ := Grid.ok_b hg
  rw [regR_has (bothT_good g a b)]
  unfold bothT
  rw [hasB_iff, hasB_iff]
  constructor
  · rintro ⟨h1, h2, h3⟩
    rcases (bothN_cov hH.2 _ tab0 a b (tab0_good g.W).len ha hb (Nat.le_refl _) _ _).1 h3 with h | ⟨r, hr, s, hs, h⟩
    · exact absurd h (tabCov0 _ _)
    · exact ⟨⟨r, hr, by omega, h.2.1.1, h.2.1.2⟩, s, hs, by omega, h.2.2.1, h.2.2.2⟩
  · rintro ⟨⟨r, hr, h1, h2, h3⟩, s, hs, h4, h5, h6⟩
    have h7 := ha.rng r hr
    refine ⟨by omega, by omega, (bothN_cov hH.2 _ tab0 a b (tab0_good g.W).len ha hb (Nat.le_refl _) _ _).2 (.inr ⟨r, hr, s, hs, ⟨by omega, by omega⟩, ⟨h2, h3⟩, h5, h6⟩)⟩
theorem growRow_low {W H a b lo : Int} {T : Tab} (h : Tab.low H T) : ∀ n, Tab.low H (growRow W H a b lo T n) := by
  intro n
  induction n with
  | zero => exact h
  | succ n ih => rw [growRow_succ]; exact ih.add _ _ _ _
theorem growT_low (g : Grid) (l : Lead) : ∀ (rs : List Run) (T : Tab), Tab.low g.H T → Tab.low g.H (rs.foldl (grow1 g l) T) := by
  intro rs
  induction rs with
  | nil => intro T h; exact h
  | cons r rs ih => intro T h; exact ih _ (growRow_low h _)
theorem growT_all {g : Grid} (hH : 1 ≤ g.H ∧ g.H ≤ 256) (l : Lead) (rs : List Run) : Tab.good g.W (rs.length * 256) (growT g l rs) := by
  have := growT_good hH l rs rs.length (Nat.le_refl _)
  rwa [List.take_length] at this
/-- a cell to which a cell grows -/
def rectC (l : Lead) (d c : Cell) : Prop := (d.Y + l.s ≤ c.Y ∧ c.Y ≤ d.Y + l.n) ∧ d.X + l.w ≤ c.X ∧ c.X ≤ d.X + l.e
theorem grow_has {g : Grid} (hH : 1 ≤ g.H ∧ g.H ≤ 256) {l : Lead} (hl : l.w ≤ l.e) {rs : List Run} (hr : ∀ r ∈ rs, r.From < r.To) (c : Cell) : hasB (regR (growT g l rs)) c = true ↔ inG g c ∧ ∃ d, hasB rs d = true ∧ rectC l d c := by
  rw [growT_has hH]
  unfold inGrow inG rectC
  constructor
  · rintro ⟨r, h1, h2, h3, h4, h5, h6⟩
    have h7 := hr r h1
    refine ⟨⟨h3, by omega⟩, ⟨max r.From (c.X - l.e), r.Y⟩, hasB_iff.2 ⟨r, h1, rfl, by simp only; omega, by simp only; omega⟩, by simp only; omega, by simp only; omega⟩
  · rintro ⟨⟨h1, h2⟩, d, h3, h4, h5⟩
    obtain ⟨r, hr, h6, h7, h8⟩ := hasB_iff.1 h3
    exact ⟨r, hr, by omega, h1, by omega, by omega, by omega⟩
theorem lead_wide {S low high : Int} (hS : 1 ≤ S) (h : low ≤ high) : low / S ≤ (S - 1 + high) / S := Int.ediv_le_ediv (by omega) (by omega)
theorem leadOf_wide {g : Grid} {p : Push} (hS : 1 ≤ g.S) (hp : p.ok = true) : (leadOf g p).w ≤ (leadOf g p).e ∧ (leadOf g p).s ≤ (leadOf g p).n := by
  unfold Push.ok at hp
  simp only [Bool.and_eq_true, decide_eq_true_eq] at hp
  exact ⟨lead_wide hS hp.1.1.2, lead_wide hS hp.1.2.2⟩
theorem canon_of_right {W H : Int} {rs : List Run} (h : rightB W H rs = true) : Canon W H rs := (right_iff.1 h).1
/-- growing, on a small grid -/
theorem growR_small {g : Grid} (hs : g.ok = true → g.W * g.H ≤ 4096) (r : List Run) (p : Push) : growR g r p = ([], false, 2) ∨
    (checkedB g [r] = true ∧ p.ok = true ∧ growR g r p = (regR (growT g (leadOf g p) r), r.any (offB g (leadOf g p)), 0) ∧ rightB g.W g.H (regR (growT g (leadOf g p) r)) = true) := by
  unfold growR
  cases h1 : checkedB g [r] with
  | false => left; simp
  | true => cases h2 : p.ok with
    | false => left; simp
    | true =>
      right
      obtain ⟨h3, _⟩ := checkedB_b h1
      obtain ⟨hW, hH, hS, _⟩ := Grid.ok_b h3
      obtain ⟨h4, _, h5⟩ := regRes_fits (growT_all hH (leadOf g p) r) (growT_low g (leadOf g p) r tab0 (tab0_low _)) hW.1 hH.1 (hs h3)
      refine ⟨rfl, rfl, ?_, h5⟩
      rw [h4]
      simp
def bothR (g : Grid) (a b : List Run) : List Run × Int := if checkedB g [a, b] then regRes (bothT g.W g.H tab0 a b) else ([], 2)
theorem bothR_small {g : Grid} (hs : g.ok = true → g.W * g.H ≤ 4096) (a b : List Run) : bothR g a b = ([], 2) ∨
    (checkedB g [a, b] = true ∧ bothR g a b = (regR (bothT g.W g.H tab0 a b), 0) ∧ rightB g.W g.H (regR (bothT g.W g.H tab0 a b)) = true) := by
  unfold bothR
  cases h1 : checkedB g [a, b] with
  | false => left; simp
  | true =>
    right
    obtain ⟨h3, _⟩ := checkedB_b h1
    obtain ⟨hW, hH, hS, _⟩ := Grid.ok_b h3
    obtain ⟨h4, _, h5⟩ := regRes_fits (bothT_good g a b) (bothN_low _ tab0 a b (tab0_low _)) hW.1 hH.1 (hs h3)
    exact ⟨rfl, by rw [if_pos rfl, h4], h5⟩
def partB (a b : List Run) : Bool := a.all fun r => (List.range (r.To - r.From).toNat).all fun k => hasB b ⟨r.From + k, r.Y⟩
theorem partB_of {a b : List Run} (h : ∀ c, hasB a c = true → hasB b c = true) : partB a b = true := by
  unfold partB
  rw [List.all_eq_true]
  intro r hr
  rw [List.all_eq_true]
  intro k hk
  rw [List.mem_range] at hk
  exact h _ (hasB_iff.2 ⟨r, hr, rfl, by simp only; omega, by simp only; omega⟩)
def Push.wide (p q : Push) : Push := ⟨⟨min p.Low.X q.Low.X, min p.Low.Y q.Low.Y⟩, ⟨max p.High.X q.High.X, max p.High.Y q.High.Y⟩⟩
def Push.sum (p q : Push) : Push := ⟨⟨w64 (p.Low.X + q.Low.X), w64 (p.Low.Y + q.Low.Y)⟩, ⟨w64 (p.High.X + q.High.X), w64 (p.High.Y + q.High.Y)⟩⟩
/-- the statement, in plain words -/
theorem more_law {g : Grid} (hs : g.ok = true → g.W * g.H ≤ 4096) (a b : List Run) (p q : Push) :
    ((bothR g a b).2 = 0 ∧ (growR g a p).2.2 = 0 ∧ (growR g (bothR g a b).1 p).2.2 = 0 ∧ partB (growR g (bothR g a b).1 p).1 (growR g a p).1 = true ∧
      ((growR g a (p.wide q)).2.2 = 0 → partB (growR g a p).1 (growR g a (p.wide q)).1 = true) ∧
      ((growR g a p).2.1 = true ∨ (growR g (growR g a p).1 q).2.2 ≠ 0 ∨ (growR g a (p.sum q)).2.2 ≠ 0 ∨ partB (growR g a (p.sum q)).1 (growR g (growR g a p).1 q).1 = true)) ∨
    (¬((bothR g a b).2 = 0 ∧ (growR g a p).2.2 = 0 ∧ (growR g (bothR g a b).1 p).2.2 = 0) ∧ ((bothR g a b).2 = 2 ∨ (growR g a p).2.2 = 2)) := by
  rcases bothR_small hs a b with h1 | ⟨hc, h1, hr1⟩
  · right; rw [h1]; exact ⟨by simp, .inl rfl⟩
  rcases growR_small hs a p with h2 | ⟨hc2, hp, h2, hr2⟩
  · right; rw [h2]; exact ⟨by simp, .inr rfl⟩
  left
  obtain ⟨hgok, hall⟩ := checkedB_b hc
  obtain ⟨hW, hH, hS, _⟩ := Grid.ok_b hgok
  have hca := canon_of_right (hall a (by simp))
  have hcb := canon_of_right (hall b (by simp))
  have hcc : checkedB g [(bothR g a b).1] = true := by
    unfold checkedB
    rw [hgok, h1]
    simpa using hr1
  rcases growR_small hs (bothR g a b).1 p with h3 | ⟨_, _, h3, hr3⟩
  · exfalso
    unfold growR at h3
    rw [hcc, hp] at h3
    simp only [Bool.and_self, if_true] at h3
    split at h3
    · have := congrArg (·.2.2) h3; simp at this
    · rename_i hne
      have h4 := regRes_fits (growT_all hH (leadOf g p) (bothR g a b).1) (growT_low g (leadOf g p) (bothR g a b).1 tab0 (tab0_low _)) hW.1 hH.1 (hs hgok)
      rw [h4.1] at hne
      exact hne rfl
  have hlp := leadOf_wide hS.1 hp
  have hcx := canon_of_right hr2
  have fx := grow_has (g := g) hH hlp.1 (rs := a) fun r hr => by have := hca.rng r hr; omega
  have hcboth := canon_of_right hr1
  have fy := grow_has (g := g) hH hlp.1 (rs := (bothR g a b).1) fun r hr => by rw [h1] at hr; have := hcboth.rng r hr; omega
  refine ⟨by rw [h1], by rw [h2], by rw [h3], ?_, fun hz => ?_, ?_⟩
  · rw [h3, h2]
    refine partB_of fun c hc' => ?_
    obtain ⟨h4, d, h5, h6⟩ := (fy c).1 hc'
    rw [h1] at h5
    exact (fx c).2 ⟨h4, d, ((both_has hgok hca hcb d).1 h5).1, h6⟩
  · rcases growR_small hs a (p.wide q) with h4 | ⟨_, hp4, h4, _⟩
    · rw [h4] at hz; cases hz
    · rw [h4, h2]
      have hlw := leadOf_wide (g := g) hS.1 hp4
      refine partB_of fun c hc' => ?_
      obtain ⟨h5, d, h6, h7⟩ := (fx c).1 hc'
      refine (grow_has (g := g) hH hlw.1 (fun r hr => by have := hca.rng r hr; omega) c).2 ⟨h5, d, h6, ?_⟩
      have e1 : (p.wide q).Low.X / g.S ≤ p.Low.X / g.S := Int.ediv_le_ediv (by omega) (by simp only [Push.wide]; omega)
      have e2 : (p.wide q).Low.Y / g.S ≤ p.Low.Y / g.S := Int.ediv_le_ediv (by omega) (by simp only [Push.wide]; omega)
      have e3 : (g.S - 1 + p.High.X) / g.S ≤ (g.S - 1 + (p.wide q).High.X) / g.S := Int.ediv_le_ediv (by omega) (by simp only [Push.wide]; omega)
      have e4 : (g.S - 1 + p.High.Y) / g.S ≤ (g.S - 1 + (p.wide q).High.Y) / g.S := Int.ediv_le_ediv (by omega) (by simp only [Push.wide]; omega)
      unfold rectC at h7 ⊢
      simp only [leadOf] at h7 ⊢
      omega
  · cases hoff : (growR g a p).2.1 with
    | true => exact .inl rfl
    | false =>
      right
      rcases growR_small hs (growR g a p).1 q with h4 | ⟨_, hq, h4, _⟩
      · left; rw [h4]; decide
      right
      rcases growR_small hs a (p.sum q) with h5 | ⟨_, hpq, h5, _⟩
      · left; rw [h5]; decide
      right
      have hlq := leadOf_wide (g := g) hS.1 hq
      have hls := leadOf_wide (g := g) hS.1 hpq
      rw [h5, h4]
      have pb : (-16777216 ≤ p.Low.X ∧ p.Low.X ≤ p.High.X) ∧ (-16777216 ≤ p.Low.Y ∧ p.Low.Y ≤ p.High.Y) ∧ max p.High.X p.High.Y ≤ 16777216 := by
        unfold Push.ok at hp; simpa [and_assoc] using hp
      have qb : (-16777216 ≤ q.Low.X ∧ q.Low.X ≤ q.High.X) ∧ (-16777216 ≤ q.Low.Y ∧ q.Low.Y ≤ q.High.Y) ∧ max q.High.X q.High.Y ≤ 16777216 := by
        unfold Push.ok at hq; simpa [and_assoc] using hq
      have hsum : p.sum q = ⟨⟨p.Low.X + q.Low.X, p.Low.Y + q.Low.Y⟩, ⟨p.High.X + q.High.X, p.High.Y + q.High.Y⟩⟩ := by
        unfold Push.sum
        rw [w64_id, w64_id, w64_id, w64_id] <;> unfold In64 <;> omega
      have key : ∀ {S x y : Int}, 1 ≤ S → x / S + y / S ≤ (x + y) / S := fun {S x y} hS => by
        have h1 := Int.emod_add_mul_ediv x S
        have h2 := Int.emod_add_mul_ediv y S
        have h3 := Int.emod_nonneg x (show S ≠ 0 by omega)
        have h4 := Int.emod_nonneg y (show S ≠ 0 by omega)
        rw [Int.le_ediv_iff_mul_le (by omega), Int.add_mul, Int.mul_comm (x / S), Int.mul_comm (y / S)]
        omega
      have key2 : ∀ {S x y : Int}, 1 ≤ S → (S - 1 + (x + y)) / S ≤ (S - 1 + x) / S + (S - 1 + y) / S := fun {S x y} hS => by
        have h1 := Int.emod_add_mul_ediv (S - 1 + x) S
        have h2 := Int.emod_add_mul_ediv (S - 1 + y) S
        have h3 := Int.emod_lt_of_pos (S - 1 + x) (show 0 < S by omega)
        have h4 := Int.emod_lt_of_pos (S - 1 + y) (show 0 < S by omega)
        have h5 : (S - 1 + (x + y)) / S < (S - 1 + x) / S + (S - 1 + y) / S + 1 := by
          rw [Int.ediv_lt_iff_lt_mul (by omega), Int.add_mul, Int.add_mul, Int.mul_comm ((S - 1 + x) / S), Int.mul_comm ((S - 1 + y) / S)]
          omega
        omega
      have k1 := key (S := g.S) (x := p.Low.X) (y := q.Low.X) hS.1
      have k2 := key (S := g.S) (x := p.Low.Y) (y := q.Low.Y) hS.1
      have k3 := key2 (S := g.S) (x := p.High.X) (y := q.High.X) hS.1
      have k4 := key2 (S := g.S) (x := p.High.Y) (y := q.High.Y) hS.1
      rw [h2] at hoff
      simp only [List.any_eq_false] at hoff
      refine partB_of fun c hc' => ?_
      obtain ⟨h6, d, h7, h8⟩ := (grow_has (g := g) hH hls.1 (rs := a) (fun r hr => by have := hca.rng r hr; omega) c).1 hc'
      refine (grow_has (g := g) hH hlq.1 (fun r hr => by rw [h2] at hr; have := hcx.rng r hr; omega) c).2 ⟨h6, ?_⟩
      rw [hsum] at h8
      unfold rectC at h8
      simp only [leadOf] at h8
      obtain ⟨r, hr, h9, h10, h11⟩ := hasB_iff.1 h7
      have ho : offB g (leadOf g p) r = false := by simpa using hoff r hr
      unfold offB at ho
      simp only [leadOf, Bool.or_eq_false_iff] at ho
      have o1 := of_decide_eq_false ho.1.1.1
      have o2 := of_decide_eq_false ho.1.1.2
      have o3 := of_decide_eq_false ho.1.2
      have o4 := of_decide_eq_false ho.2
      simp only [leadOf] at hlp hlq
      refine ⟨⟨max (d.X + p.Low.X / g.S) (c.X - (g.S - 1 + q.High.X) / g.S), max (d.Y + p.Low.Y / g.S) (c.Y - (g.S - 1 + q.High.Y) / g.S)⟩, ?_, ?_⟩
      · rw [h2]
        refine (fx _).2 ⟨?_, d, h7, ?_⟩
        · unfold inG; simp only; omega
        · unfold rectC; simp only [leadOf]; omega
      · unfold rectC; simp only [leadOf]; omega
end Go.J

namespace Go.J
set_option linter.unusedSimpArgs false
set_option linter.unusedVariables false
/-! plain: discs and half planes -/
def rootGo (n : Int) : Nat → Int → Int → Int
  | 0, low, _ => low
  | f + 1, low, high => if high - low > 1 then (if (low + high) / 2 * ((low + high) / 2) ≤ n then rootGo n f ((low + high) / 2) high else rootGo n f low ((low + high) / 2)) else low
def rootI (n : Int) : Int := rootGo n 32 0 2147483648
theorem rootGo_ok (n : Int) : ∀ (f : Nat) (low high : Int), 0 ≤ low → low < high → low * low ≤ n → n < high * high → high - low ≤ 2 ^ f →
    0 ≤ rootGo n f low high ∧ rootGo n f low high * rootGo n f low high ≤ n ∧ n < (rootGo n f low high + 1) * (rootGo n f low high + 1) := by
  intro f
  induction f with
  | zero =>
    intro low high h0 h1 h2 h3 h4
    have : high = low + 1 := by simp at h4; omega
    subst this
    exact ⟨h0, h2, h3⟩
  | succ f ih =>
    intro low high h0 h1 h2 h3 h4
    unfold rootGo
    rw [Int.pow_succ] at h4
    split
    · rename_i hd
      split
      · rename_i hm
        exact ih _ _ (by omega) (by omega) hm h3 (by omega)
      · rename_i hm
        exact ih _ _ h0 (by omega) h2 (by omega) (by omega)
    · have : high = low + 1 := by omega
      subst this
      exact ⟨h0, h2, h3⟩
theorem rootI_ok {n : Int} (h0 : 0 ≤ n) (h : n < 4611686018427387904) : 0 ≤ rootI n ∧ rootI n * rootI n ≤ n ∧ n < (rootI n + 1) * (rootI n + 1) :=
  rootGo_ok n 32 0 2147483648 (by omega) (by omega) (by omega) (by omega) (by decide)
theorem sq_le {a b : Int} (ha : 0 ≤ a) (hb : 0 ≤ b) : a ≤ b ↔ a * a ≤ b * b := by
  constructor
  · intro h; exact Int.mul_le_mul h h ha hb
  · intro h
    rcases Int.lt_or_le b a with h1 | h1
    · exfalso
      have h2 : (b + 1) * (b + 1) ≤ a * a := Int.mul_le_mul (by omega) (by omega) (by omega) ha
      rw [Int.add_mul, Int.mul_add] at h2
      omega
    · exact h1
theorem root_le {n x : Int} (h0 : 0 ≤ n) (h : n < 4611686018427387904) (hx : 0 ≤ x) : x ≤ rootI n ↔ x * x ≤ n := by
  obtain ⟨h1, h2, h3⟩ := rootI_ok h0 h
  constructor
  · intro hh; have := (sq_le hx h1).1 hh; omega
  · intro hh
    rcases Int.lt_or_le (rootI n) x with h4 | h4
    · exfalso
      have := (sq_le (show 0 ≤ rootI n + 1 by omega) hx).1 (by omega)
      omega
    · exact h4
def awayI (S n cell : Int) : Int := max (max 0 (cell * S - n)) (n - cell * S - S + 1)
def discRow (g : Grid) (s : Spot) (radius y : Int) : Int × Int :=
  if awayI g.S s.Y y > radius then (0, -1) else ((s.X - rootI (radius * radius - awayI g.S s.Y y * awayI g.S s.Y y)) / g.S, (s.X + rootI (radius * radius - awayI g.S s.Y y * awayI g.S s.Y y)) / g.S)
/-- rows of one run each: always short enough -/
theorem tot_fill (W H : Int) (F : Int → Int × Int) (n : Nat) (y : Nat) : tot (fillT W H F n) y ≤ n := by
  induction n with
  | zero => rw [show fillT W H F 0 = tab0 from rfl, tot0]; exact Nat.le_refl _
  | succ n ih =>
    rw [fillT_succ]
    have := tot_add (fillT W H F n) W H (F n).1 ((F n).2 + 1) n y
    split at this <;> omega
theorem fill_fits (W H : Int) (F : Int → Int × Int) (n : Nat) (hn : n ≤ 256) : regRes (fillT W H F n) = (regR (fillT W H F n), 0) := by
  unfold regRes
  rw [if_pos]
  have h1 := outR_tot (fillT W H F n) 256
  have h2 := tot_fill W H F n 256
  unfold regR
  omega
theorem fill_cov {W H : Int} (hH : H ≤ 256) (F : Int → Int × Int) (Y : Nat) (x : Int) : ∀ n : Nat, (n : Int) ≤ H → (tabCov (fillT W H F n) Y x ↔ Y < n ∧ max 0 (F Y).1 ≤ x ∧ x < min ((F Y).2 + 1) W) := by
  intro n
  induction n with
  | zero =>
    intro _
    constructor
    · intro h; exact absurd h (tabCov0 _ _)
    · rintro ⟨h, _⟩; omega
  | succ n ih =>
    intro hn
    rw [fillT_succ, add_cov (fillT_good W H F n).len hH, ih (by omega)]
    constructor
    · rintro (h | ⟨h1, h2, h3⟩)
      · exact ⟨by omega, h.2⟩
      · have : Y = n := by omega
        subst this
        exact ⟨by omega, h3⟩
    · rintro ⟨h1, h2⟩
      by_cases hY : Y = n
      · subst hY; exact .inr ⟨by omega, rfl, h2⟩
      · exact .inl ⟨by omega, h2⟩
theorem fill_low (W H : Int) (F : Int → Int × Int) : ∀ n, Tab.low H (fillT W H F n) := by
  intro n
  induction n with
  | zero => exact tab0_low _
  | succ n ih => rw [fillT_succ]; exact ih.add _ _ _ _
theorem fill_has {g : Grid} (hH : 1 ≤ g.H ∧ g.H ≤ 256) (F : Int → Int × Int) (c : Cell) : hasB (regR (fillT g.W g.H F g.H.toNat)) c = true ↔ inG g c ∧ (F c.Y).1 ≤ c.X ∧ c.X ≤ (F c.Y).2 := by
  rw [regR_has (fillT_good g.W g.H F g.H.toNat)]
  unfold inG
  constructor
  · rintro ⟨h1, h2, h3⟩
    have h4 := (fill_cov hH.2 F c.Y.toNat c.X g.H.toNat (by omega)).1 h3
    rw [show ((c.Y.toNat : Nat) : Int) = c.Y by omega] at h4
    omega
  · rintro ⟨⟨h1, h2⟩, h3⟩
    refine ⟨by omega, by omega, (fill_cov hH.2 F c.Y.toNat c.X g.H.toNat (by omega)).2 ?_⟩
    rw [show ((c.Y.toNat : Nat) : Int) = c.Y by omega]
    omega
def discR (g : Grid) (s : Spot) (radius : Int) : List Run × Int := if g.ok && s.ok && decide (0 ≤ radius ∧ radius ≤ 16777216) then regRes (fillT g.W g.H (discRow g s radius) g.H.toNat) else ([], 2)
theorem mul_dist {a b S : Int} : (a + b) * S = a * S + b * S := Int.add_mul _ _ _
theorem Spot.ok_b {s : Spot} (h : s.ok = true) : (-16777216 ≤ s.X ∧ s.X ≤ 16777216) ∧ (-16777216 ≤ s.Y ∧ s.Y ≤ 16777216) := by unfold Spot.ok at h; simpa using h
theorem disc_has {g : Grid} (hg : g.ok = true) {s : Spot} {radius : Int} (hr : 0 ≤ radius ∧ radius ≤ 16777216) (c : Cell) :
    hasB (regR (fillT g.W g.H (discRow g s radius) g.H.toNat)) c = true ↔ inG g c ∧ awayI g.S s.X c.X * awayI g.S s.X c.X + awayI g.S s.Y c.Y * awayI g.S s.Y c.Y ≤ radius * radius := by
  obtain ⟨hW, hH, hS, _⟩ := Grid.ok_b hg
  rw [fill_has hH]
  refine and_congr_right fun _ => ?_
  obtain ⟨dx, hdx⟩ : ∃ dx, dx = awayI g.S s.X c.X := ⟨_, rfl⟩
  obtain ⟨dy, hdy⟩ : ∃ dy, dy = awayI g.S s.Y c.Y := ⟨_, rfl⟩
  have hx0 : 0 ≤ dx := by rw [hdx]; unfold awayI; omega
  have hy0 : 0 ≤ dy := by rw [hdy]; unfold awayI; omega
  unfold discRow
  rw [← hdx, ← hdy]
  have hxx : 0 ≤ dx * dx := Int.mul_nonneg hx0 hx0
  have hyy : 0 ≤ dy * dy := Int.mul_nonneg hy0 hy0
  have hrr : radius * radius ≤ 16777216 * 16777216 := Int.mul_le_mul hr.2 hr.2 hr.1 (by omega)
  split
  · rename_i h
    simp only
    have h1 : (radius + 1) * (radius + 1) ≤ dy * dy := (sq_le (by omega) hy0).1 (by omega)
    rw [Int.add_mul, Int.mul_add] at h1
    constructor
    · rintro ⟨h2, h3⟩; omega
    · intro h2; omega
  · rename_i h
    have h1 : dy * dy ≤ radius * radius := (sq_le hy0 hr.1).1 (by omega)
    have h2 := root_le (n := radius * radius - dy * dy) (x := dx) (by omega) (by omega) hx0
    obtain ⟨w, hw⟩ : ∃ w, w = rootI (radius * radius - dy * dy) := ⟨_, rfl⟩
    have hw0 : 0 ≤ w := by rw [hw]; exact (rootI_ok (by omega) (by omega)).1
    rw [← hw] at h2 ⊢
    simp only
    rw [show dx * dx + dy * dy ≤ radius * radius ↔ dx ≤ w by rw [h2]; omega]
    rw [hdx]
    unfold awayI
    have e1 : (s.X - w) / g.S ≤ c.X ↔ s.X - w < (c.X + 1) * g.S := by
      rw [← Int.lt_add_one_iff, Int.ediv_lt_iff_lt_mul (by omega)]
    have e2 : c.X ≤ (s.X + w) / g.S ↔ c.X * g.S ≤ s.X + w := Int.le_ediv_iff_mul_le (by omega)
    rw [e1, e2, Int.add_mul]
    omega
/-- is a cell to the left of a line? -/
def leftI (g : Grid) (a b : Spot) (c : Cell) : Bool :=
  decide (0 ≤ (b.X - a.X) * ((if b.X - a.X > 0 then c.Y * g.S + (g.S - 1) else c.Y * g.S) - a.Y) - (b.Y - a.Y) * ((if b.Y - a.Y < 0 then c.X * g.S + (g.S - 1) else c.X * g.S) - a.X))
def upTo (p : Int → Bool) (to : Int) : Nat → Int → Int
  | 0, a => a
  | f + 1, a => if a ≤ to ∧ p a = false then upTo p to f (a + 1) else a
def downTo (p : Int → Bool) (fr : Int) : Nat → Int → Int
  | 0, a => a
  | f + 1, a => if fr ≤ a ∧ p a = false then downTo p fr f (a - 1) else a
theorem upTo_ok (p : Int → Bool) (to : Int) : ∀ (f : Nat) (a : Int), to - a < f → a ≤ upTo p to f a ∧ upTo p to f a ≤ max a (to + 1) ∧ (∀ x, a ≤ x → x < upTo p to f a → p x = false) ∧ (upTo p to f a ≤ to → p (upTo p to f a) = true) := by
  intro f
  induction f with
  | zero => intro a h; exact ⟨Int.le_refl _, by simp only [upTo]; omega, fun x h1 h2 => by simp only [upTo] at h2; omega, fun h1 => by simp only [upTo] at h1; omega⟩
  | succ f ih =>
    intro a h
    unfold upTo
    split
    · rename_i hc
      obtain ⟨h1, h2, h3, h4⟩ := ih (a + 1) (by omega)
      refine ⟨by omega, by omega, fun x hx hx2 => ?_, h4⟩
      by_cases hxa : x = a
      · subst hxa; exact hc.2
      · exact h3 x (by omega) hx2
    · rename_i hc
      refine ⟨Int.le_refl _, by omega, fun x h1 h2 => by omega, fun h1 => ?_⟩
      cases hp : p a with
      | true => rfl
      | false => exact absurd ⟨h1, hp⟩ hc
theorem downTo_ok (p : Int → Bool) (fr : Int) : ∀ (f : Nat) (a : Int), a - fr < f → downTo p fr f a ≤ a ∧ min a (fr - 1) ≤ downTo p fr f a ∧ (∀ x, x ≤ a → downTo p fr f a < x → p x = false) ∧ (fr ≤ downTo p fr f a → p (downTo p fr f a) = true) := by
  intro f
  induction f with
  | zero => intro a h; exact ⟨Int.le_refl _, by simp only [downTo]; omega, fun x h1 h2 => by simp only [downTo] at h2; omega, fun h1 => by simp only [downTo] at h1; omega⟩
  | succ f ih =>
    intro a h
    unfold downTo
    split
    · rename_i hc
      obtain ⟨h1, h2, h3, h4⟩ := ih (a - 1) (by omega)
      refine ⟨by omega, by omega, fun x hx hx2 => ?_, h4⟩
      by_cases hxa : x = a
      · subst hxa; exact hc.2
      · exact h3 x (by omega) hx2
    · rename_i hc
      refine ⟨Int.le_refl _, by omega, fun x h1 h2 => by omega, fun h1 => ?_⟩
      cases hp : p a with
      | true => rfl
      | false => exact absurd ⟨h1, hp⟩ hc
def halfFrom (g : Grid) (a b : Spot) (y : Int) : Int := upTo (fun x => leftI g a b ⟨x, y⟩) (g.W - 1) (g.W.toNat + 1) 0
def halfRow (g : Grid) (a b : Spot) (y : Int) : Int × Int := (halfFrom g a b y, downTo (fun x => leftI g a b ⟨x, y⟩) (halfFrom g a b y) (g.W.toNat + 1) (g.W - 1))
def halfR (g : Grid) (a b : Spot) : List Run × Int := if g.ok && a.ok && b.ok && decide (a ≠ b) then regRes (fillT g.W g.H (halfRow g a b) g.H.toNat) else ([], 2)
theorem left_convex {g : Grid} (hS : 1 ≤ g.S) {a b : Spot} {x y z Y : Int} (h1 : x ≤ y) (h2 : y ≤ z) (hx : leftI g a b ⟨x, Y⟩ = true) (hz : leftI g a b ⟨z, Y⟩ = true) : leftI g a b ⟨y, Y⟩ = true := by
  unfold leftI at *
  simp only [decide_eq_true_eq] at *
  generalize (b.X - a.X) * ((if b.X - a.X > 0 then Y * g.S + (g.S - 1) else Y * g.S) - a.Y) = K at *
  have m1 : x * g.S ≤ y * g.S := Int.mul_le_mul_of_nonneg_right h1 (by omega)
  have m2 : y * g.S ≤ z * g.S := Int.mul_le_mul_of_nonneg_right h2 (by omega)
  generalize b.Y - a.Y = v at *
  by_cases hvn : v < 0
  · have hvn' : v ≤ 0 := by omega
    simp only [hvn, if_true] at *
    have := Int.mul_le_mul_of_nonpos_left (show v ≤ 0 by omega) (show x * g.S + (g.S - 1) - a.X ≤ y * g.S + (g.S - 1) - a.X by omega)
    omega
  · have hvn' : 0 ≤ v := by omega
    simp only [hvn, if_false] at *
    have := Int.mul_le_mul_of_nonneg_left (show y * g.S - a.X ≤ z * g.S - a.X by omega) (show 0 ≤ v by omega)
    omega
theorem half_has {g : Grid} (hg : g.ok = true) {a b : Spot} (c : Cell) : hasB (regR (fillT g.W g.H (halfRow g a b) g.H.toNat)) c = true ↔ inG g c ∧ leftI g a b c = true := by
  obtain ⟨hW, hH, hS, _⟩ := Grid.ok_b hg
  rw [fill_has hH]
  refine and_congr_right fun hin => ?_
  unfold inG at hin
  have hu := upTo_ok (fun x => leftI g a b ⟨x, c.Y⟩) (g.W - 1) (g.W.toNat + 1) 0 (by omega)
  have hd := downTo_ok (fun x => leftI g a b ⟨x, c.Y⟩) (halfFrom g a b c.Y) (g.W.toNat + 1) (g.W - 1) (by unfold halfFrom; omega)
  simp only [halfRow]
  unfold halfFrom at *
  generalize upTo (fun x => leftI g a b ⟨x, c.Y⟩) (g.W - 1) (g.W.toNat + 1) 0 = f at *
  generalize downTo (fun x => leftI g a b ⟨x, c.Y⟩) f (g.W.toNat + 1) (g.W - 1) = t at *
  obtain ⟨u1, u2, u3, u4⟩ := hu
  obtain ⟨d1, d2, d3, d4⟩ := hd
  constructor
  · rintro ⟨h1, h2⟩
    exact left_convex (x := f) (z := t) hS.1 h1 h2 (u4 (by omega)) (d4 (by omega))
  · intro h
    constructor
    · rcases Int.lt_or_le c.X f with h1 | h1
      · have := u3 c.X (by omega) h1
        rw [show (⟨c.X, c.Y⟩ : Cell) = c from rfl, h] at this; cases this
      · exact h1
    · rcases Int.lt_or_le t c.X with h1 | h1
      · have := d3 c.X (by omega) h1
        rw [show (⟨c.X, c.Y⟩ : Cell) = c from rfl, h] at this; cases this
      · exact h1
/-- the statement, in plain words -/
theorem reach_disc {g : Grid} {a s : Spot} {radius : Int} (he : (cellOfR g s).2 = 0) (hf : (discR g a radius).2 = 0) :
    ((s.X - a.X) * (s.X - a.X) + (s.Y - a.Y) * (s.Y - a.Y) ≤ radius * radius → hasB (discR g a radius).1 (cellOfR g s).1 = true) ∧
    (hasB (discR g a radius).1 (cellOfR g s).1 = decide (awayI g.S a.X (cellOfR g s).1.X * awayI g.S a.X (cellOfR g s).1.X + awayI g.S a.Y (cellOfR g s).1.Y * awayI g.S a.Y (cellOfR g s).1.Y ≤ radius * radius)) := by
  unfold discR at hf ⊢
  split at hf
  · rename_i hc
    rw [if_pos hc]
    simp only [Bool.and_eq_true, decide_eq_true_eq] at hc
    obtain ⟨⟨hg, ha⟩, hr⟩ := hc
    obtain ⟨hW, hH, hS, _⟩ := Grid.ok_b hg
    rw [fill_fits _ _ _ _ (by omega)]
    simp only
    unfold cellOfR at he ⊢
    split at he
    · cases he
    · rename_i h1
      rw [if_neg h1]
      split at he
      · rename_i h2
        rw [if_pos h2]
        have hin : inG g ⟨s.X / g.S, s.Y / g.S⟩ := by unfold inG; simp only; omega
        have hd := disc_has hg hr (s := a) ⟨s.X / g.S, s.Y / g.S⟩
        simp only at hd ⊢
        refine ⟨fun h => hd.2 ⟨hin, ?_⟩, ?_⟩
        · have key : ∀ {x t : Int}, awayI g.S t (x / g.S) * awayI g.S t (x / g.S) ≤ (x - t) * (x - t) := fun {x t} => by
            have e1 := Int.emod_add_mul_ediv x g.S
            have e2 := Int.emod_nonneg x (show g.S ≠ 0 by omega)
            have e3 := Int.emod_lt_of_pos x (show 0 < g.S by omega)
            have e4 : x / g.S * g.S = x - x % g.S := by rw [Int.mul_comm]; omega
            have h0 : 0 ≤ awayI g.S t (x / g.S) := by unfold awayI; omega
            rcases Int.lt_or_le x t with h | h
            · have : awayI g.S t (x / g.S) ≤ t - x := by unfold awayI; rw [e4]; omega
              have h5 := (sq_le h0 (by omega)).1 this
              have h6 : (t - x) * (t - x) = (x - t) * (x - t) := by rw [← Int.neg_sub x t, Int.neg_mul_neg]
              omega
            · have : awayI g.S t (x / g.S) ≤ x - t := by unfold awayI; rw [e4]; omega
              exact (sq_le h0 (by omega)).1 this
          have k1 := key (x := s.X) (t := a.X)
          have k2 := key (x := s.Y) (t := a.Y)
          omega
        · rw [Bool.eq_iff_iff, hd, decide_eq_true_eq]
          exact ⟨fun h => h.2, fun h => ⟨hin, h⟩⟩
      · cases he
  · cases hf
theorem reach_half {g : Grid} {a b s : Spot} (he : (cellOfR g s).2 = 0) (hh : (halfR g a b).2 = 0) (hl : 0 ≤ (b.X - a.X) * (s.Y - a.Y) - (b.Y - a.Y) * (s.X - a.X)) : hasB (halfR g a b).1 (cellOfR g s).1 = true := by
  unfold halfR at hh ⊢
  split at hh
  · rename_i hc
    rw [if_pos hc]
    simp only [Bool.and_eq_true, decide_eq_true_eq] at hc
    obtain ⟨⟨⟨hg, ha⟩, hb⟩, hne⟩ := hc
    obtain ⟨hW, hH, hS, _⟩ := Grid.ok_b hg
    rw [fill_fits _ _ _ _ (by omega)]
    simp only
    unfold cellOfR at he ⊢
    split at he
    · cases he
    · rename_i h1
      rw [if_neg h1]
      split at he
      · rename_i h2
        rw [if_pos h2]
        refine (half_has hg _).2 ⟨by unfold inG; simp only; omega, ?_⟩
        unfold leftI
        simp only [decide_eq_true_eq]
        have f1 := Int.emod_add_mul_ediv s.X g.S
        have f2 := Int.emod_nonneg s.X (show g.S ≠ 0 by omega)
        have f3 := Int.emod_lt_of_pos s.X (show 0 < g.S by omega)
        have f4 : s.X / g.S * g.S = s.X - s.X % g.S := by rw [Int.mul_comm]; omega
        have g1 := Int.emod_add_mul_ediv s.Y g.S
        have g2 := Int.emod_nonneg s.Y (show g.S ≠ 0 by omega)
        have g3 := Int.emod_lt_of_pos s.Y (show 0 < g.S by omega)
        have g4 : s.Y / g.S * g.S = s.Y - s.Y % g.S := by rw [Int.mul_comm]; omega
        rw [f4, g4]
        have e1 : (b.X - a.X) * (s.Y - a.Y) ≤ (b.X - a.X) * ((if b.X - a.X > 0 then s.Y - s.Y % g.S + (g.S - 1) else s.Y - s.Y % g.S) - a.Y) := by
          split
          · exact Int.mul_le_mul_of_nonneg_left (by omega) (by omega)
          · exact Int.mul_le_mul_of_nonpos_left (by omega) (by omega)
        have e2 : (b.Y - a.Y) * ((if b.Y - a.Y < 0 then s.X - s.X % g.S + (g.S - 1) else s.X - s.X % g.S) - a.X) ≤ (b.Y - a.Y) * (s.X - a.X) := by
          split
          · exact Int.mul_le_mul_of_nonpos_left (by omega) (by omega)
          · exact Int.mul_le_mul_of_nonneg_left (by omega) (by omega)
        omega
      · cases he
  · cases hh
end Go.J

namespace Go.J
open Go.RowKit Go.Proofs
set_option maxRecDepth 8000
set_option linter.unusedSimpArgs false
set_option linter.unusedVariables false
theorem mul_bd2 {a b A B : Int} (h1 : -A ≤ a) (h2 : a ≤ A) (h3 : -B ≤ b) (h4 : b ≤ B) : -(A * B) ≤ a * b ∧ a * b ≤ A * B := by
  have hB : 0 ≤ B := by omega
  have hA : 0 ≤ A := by omega
  rcases Int.le_total 0 a with h | h
  · have e1 : a * b ≤ a * B := Int.mul_le_mul_of_nonneg_left h4 h
    have e2 : a * B ≤ A * B := Int.mul_le_mul_of_nonneg_right h2 hB
    have e3 : a * -B ≤ a * b := Int.mul_le_mul_of_nonneg_left h3 h
    rw [Int.mul_neg] at e3
    omega
  · have e1 : a * b ≤ a * -B := Int.mul_le_mul_of_nonpos_left h h3
    have e2 : -a * B ≤ A * B := Int.mul_le_mul_of_nonneg_right (by omega) hB
    have e3 : a * B ≤ a * b := Int.mul_le_mul_of_nonpos_left h h4
    rw [Int.mul_neg] at e1
    rw [Int.neg_mul] at e2
    omega
theorem w64_left {u v p q : Int} (hu : -33554432 ≤ u ∧ u ≤ 33554432) (hv : -33554432 ≤ v ∧ v ≤ 33554432) (hp : -100000000 ≤ p ∧ p ≤ 100000000) (hq : -100000000 ≤ q ∧ q ≤ 100000000) :
    w64 (w64 (u * p) - w64 (v * q)) = u * p - v * q := by
  have h1 := mul_bd2 hu.1 hu.2 hp.1 hp.2
  have h2 := mul_bd2 hv.1 hv.2 hq.1 hq.2
  rw [w64_id (n := u * p) (by unfold In64; omega), w64_id (n := v * q) (by unfold In64; omega), w64_id (by unfold In64; omega)]
theorem away_c (g : Grid) (lv : Value) (n cell : Int) (w : World) (hS : 1 ≤ g.S ∧ g.S ≤ 50000) (hn : -16777216 ≤ n ∧ n ≤ 16777216) (hc : 0 ≤ cell ∧ cell ≤ 256) :
    Pur Try.prog 165 #[g.ev lv, .int .i64 n, .int .i64 cell] w (.int .i64 (awayI g.S n cell)) := by
  refine pur_J (args := [g.ev lv, .int .i64 n, .int .i64 cell]) Try.func165 rfl Try.ntmps165 rfl ?_
  have H := Own.start w
  have hm := mul_bd (M := 0) hc.1 hc.2 (show 0 ≤ g.S by omega) hS.2
  ((repeat refine JC.seq ?_); refine JC.region ?_)
  refine JL.box H rfl rfl rfl ?_
  intro b3 w1 H
  refine JL.pure rfl rfl ?_
  refine JL.nil ?_
  ((repeat refine Ex.normal_block ?_); refine Ex.next ?_)
  ((repeat refine JC.seq ?_); refine JC.region ?_)
  refine JL.pure rfl rfl ?_
  refine JL.fieldAddr rfl Try.underlying52 rfl sh3 rfl ?_
  refine JL.loadB 0 H rfl sh3 rfl rfl rfl ?_
  refine JL.arith rfl (by unfold In64; omega) rfl ?_
  refine JL.pure rfl rfl ?_
  refine JL.arith rfl (by unfold In64; omega) rfl ?_
  refine JL.pure rfl rfl ?_
  refine JL.pure rfl rfl ?_
  refine JL.fieldAddr rfl Try.underlying52 rfl sh3 rfl ?_
  refine JL.loadB 0 H rfl sh3 rfl rfl rfl ?_
  refine JL.arith rfl (by unfold In64; omega) rfl ?_
  refine JL.arith rfl (by unfold In64; omega) rfl ?_
  refine JL.fieldAddr rfl Try.underlying52 rfl sh3 rfl ?_
  refine JL.loadB 0 H rfl sh3 rfl rfl rfl ?_
  refine JL.arith rfl (by unfold In64; omega) rfl ?_
  refine JL.arith rfl (by unfold In64; omega) rfl ?_
  refine JL.pure rfl rfl ?_
  refine JL.pure rfl rfl ?_
  refine JL.nil ?_
  ((repeat refine Ex.normal_block ?_); refine Ex.next ?_)
  ((repeat refine JC.seq ?_); refine JC.ret ?_)
  (repeat (first | refine Ex.ret_then ?_ | refine Ex.ret_block ?_))
  refine Ex.ret1 rfl (.tmp rfl) ⟨rfl, H.below⟩
theorem root_c (n : Int) (w : World) (h0 : 0 ≤ n) (hn : n < 4611686018427387904) : Pur Try.prog 166 #[.int .i64 n] w (.int .i64 (rootI n)) := by
  refine pur_J (args := [.int .i64 n]) Try.func166 rfl Try.ntmps166 rfl ?_
  have H := Own.start w
  ((repeat refine JC.seq ?_); refine JC.region ?_)
  refine JL.pure rfl rfl ?_
  refine JL.nil ?_
  ((repeat refine Ex.normal_block ?_); refine Ex.next ?_)
  ((repeat refine JC.seq ?_); refine JC.region ?_)
  refine JL.pure rfl rfl ?_
  refine JL.pure rfl rfl ?_
  refine JL.nil ?_
  ((repeat refine Ex.normal_block ?_); refine Ex.next ?_)
  ((repeat refine JC.seq ?_); refine JC.block ?_)
  ((repeat refine JC.seq ?_); refine JC.loop (ι := Nat × Int × Int) (fun x => [(0, .int .i64 n), (3, .int .i64 x.2.1), (4, .int .i64 x.2.2)])
    (fun x wr => (0 ≤ x.2.1 ∧ x.2.1 < x.2.2 ∧ x.2.2 ≤ 2147483648 ∧ x.2.2 - x.2.1 ≤ 2 ^ x.1) ∧ rootGo n x.1 x.2.1 x.2.2 = rootI n ∧ Own w wr [])
    (fun x => (x.2.2 - x.2.1).toNat) (32, 0, 2147483648) ?_ ?_ ?_)
  · exact ⟨rfl, rfl, rfl, trivial⟩
  · exact ⟨⟨by decide, by decide, by decide, by decide⟩, rfl, H⟩
  · rintro ⟨f, low, high⟩ wr ⟨⟨hl, hlh, hh, hf⟩, hr, H⟩
    simp only at hl hlh hh hf hr H
    show JC _ _ _ _ [(0, .int .i64 n), (3, .int .i64 low), (4, .int .i64 high)] _
    ((repeat refine JC.seq ?_); refine JC.region ?_)
    refine JL.pure rfl rfl ?_
    refine JL.pure rfl rfl ?_
    refine JL.arith rfl (by unfold In64; omega) rfl ?_
    refine JL.pure rfl rfl ?_
    refine JL.nil ?_
    ((repeat refine Ex.normal_block ?_); refine Ex.next ?_)
    ((repeat refine JC.seq ?_); refine JC.cond rfl ?_ ?_)
    · intro h9
      (try simp only [Bool.not_eq_true', Bool.not_eq_false', decide_eq_true_eq, decide_eq_false_iff_not] at h9)
      obtain ⟨f, rfl⟩ : ∃ f', f = f' + 1 := by
        cases f with
        | zero => simp at hf; omega
        | succ f' => exact ⟨f', rfl⟩
      unfold rootGo at hr
      rw [if_pos h9] at hr
      rw [Int.pow_succ] at hf
      have hm1 : 0 ≤ (low + high) / 2 := by omega
      have hm2 : (low + high) / 2 ≤ 2147483648 := by omega
      have hmm : (low + high) / 2 * ((low + high) / 2) ≤ 2147483648 * 2147483648 := Int.mul_le_mul hm2 hm2 hm1 (by omega)
      have hm0 : 0 ≤ (low + high) / 2 * ((low + high) / 2) := Int.mul_nonneg hm1 hm1
      ((repeat refine JC.seq ?_); refine JC.skip ?_)
      ((repeat refine Ex.normal_block ?_); refine Ex.next ?_)
      ((repeat refine JC.seq ?_); refine JC.block ?_)
      ((repeat refine JC.seq ?_); refine JC.region ?_)
      refine JL.pure rfl rfl ?_
      refine JL.pure rfl rfl ?_
      refine JL.arith rfl (by unfold In64; omega) rfl ?_
      first
        | refine JL.quoP rfl rfl (by omega) (by omega) (by omega) rfl ?_
        | refine JL.quo rfl rfl (by omega) rfl ?_
      refine JL.pure rfl rfl ?_
      refine JL.nil ?_
      ((repeat refine Ex.normal_block ?_); refine Ex.next ?_)
      ((repeat refine JC.seq ?_); refine JC.region ?_)
      refine JL.pure rfl rfl ?_
      refine JL.pure rfl rfl ?_
      refine JL.arith rfl (by unfold In64; omega) rfl ?_
      refine JL.pure rfl rfl ?_
      refine JL.pure rfl rfl ?_
      refine JL.nil ?_
      ((repeat refine Ex.normal_block ?_); refine Ex.next ?_)
      ((repeat refine JC.seq ?_); refine JC.cond rfl ?_ ?_)
      · intro h18
        (try simp only [Bool.not_eq_true', Bool.not_eq_false', decide_eq_true_eq, decide_eq_false_iff_not] at h18)
        ((repeat refine JC.seq ?_); refine JC.region ?_)
        refine JL.pure rfl rfl ?_
        refine JL.pure rfl rfl ?_
        refine JL.nil ?_
        (repeat refine Ex.normal_block ?_)
        refine Ex.again (f, (low + high) / 2, high) ⟨rfl, rfl, rfl, trivial⟩ ⟨⟨by simp only; omega, by simp only; omega, hh, by simp only; omega⟩, ?_, H⟩ (by simp only; omega)
        rw [if_pos h18] at hr
        exact hr
      · intro h18
        (try simp only [Bool.not_eq_true', Bool.not_eq_false', decide_eq_true_eq, decide_eq_false_iff_not] at h18)
        ((repeat refine JC.seq ?_); refine JC.region ?_)
        refine JL.pure rfl rfl ?_
        refine JL.pure rfl rfl ?_
        refine JL.nil ?_
        (repeat refine Ex.normal_block ?_)
        refine Ex.again (f, low, (low + high) / 2) ⟨rfl, rfl, rfl, trivial⟩ ⟨⟨hl, by simp only; omega, by simp only; omega, by simp only; omega⟩, ?_, H⟩ (by simp only; omega)
        rw [if_neg h18] at hr
        exact hr
    · intro h9
      (try simp only [Bool.not_eq_true', Bool.not_eq_false', decide_eq_true_eq, decide_eq_false_iff_not] at h9)
      
      ((repeat refine JC.seq ?_); refine JC.exit ?_)
      (repeat (first | refine Ex.exit_then ?_ | refine Ex.exit_miss (by decide) ?_))
      refine Ex.exit_hit ?_
      ((repeat refine Ex.normal_block ?_); refine Ex.next ?_)
      ((repeat refine JC.seq ?_); refine JC.region ?_)
      refine JL.pure rfl rfl ?_
      refine JL.pure rfl rfl ?_
      refine JL.nil ?_
      ((repeat refine Ex.normal_block ?_); refine Ex.next ?_)
      ((repeat refine JC.seq ?_); refine JC.ret ?_)
      (repeat (first | refine Ex.ret_then ?_ | refine Ex.ret_block ?_))
      refine Ex.ret1 rfl (.tmp rfl) ⟨?_, H.below⟩
      have : rootGo n f low high = low := by
        cases f with
        | zero => rfl
        | succ f => unfold rootGo; rw [if_neg h9]
      rw [← hr, this]
theorem disc1_c (g : Grid) (lv : Value) (s : Spot) (radius y : Int) (β1 β2 β3 : Nat) (w : World) (h1 : β1 < w.heap.size) (h2 : β2 < w.heap.size) (h3 : β3 < w.heap.size) (hg : LdAt w β1 0 (true, 4) (g.ev lv)) (hs : LdAt w β2 0 (true, 2) s.ev)
    (hr : LdAt w β3 0 (false, 1) (.int .i64 radius)) (hS : 1 ≤ g.S ∧ g.S ≤ 50000) (hso : s.ok = true) (hra : 0 ≤ radius ∧ radius ≤ 16777216) (hy : 0 ≤ y ∧ y ≤ 256) :
    Pur Try.prog 164 #[.int .i64 y, .pointer (some ⟨β1, 0, none⟩), .pointer (some ⟨β2, 0, none⟩), .pointer (some ⟨β3, 0, none⟩)] w (.tuple #[.int .i64 (discRow g s radius y).1, .int .i64 (discRow g s radius y).2]) := by
  refine pur_J (args := [.int .i64 y, .pointer (some ⟨β1, 0, none⟩), .pointer (some ⟨β2, 0, none⟩), .pointer (some ⟨β3, 0, none⟩)]) Try.func164 rfl Try.ntmps164 rfl ?_
  have H := Own.start w
  have hsb := Spot.ok_b hso
  ((repeat refine JC.seq ?_); refine JC.region ?_)
  refine JL.pure rfl rfl ?_
  refine JL.pure rfl rfl ?_
  refine JL.nil ?_
  ((repeat refine Ex.normal_block ?_); refine Ex.next ?_)
  ((repeat refine JC.seq ?_); refine JC.region ?_)
  refine JL.load rfl sh52 (hg.grow h1 H.below) rfl ?_
  refine JL.fieldAddr rfl Try.underlying23 rfl sh3 rfl ?_
  refine JL.load rfl sh3 ((hs.part 1 rfl 1).grow h2 H.below) rfl ?_
  refine JL.pure rfl rfl ?_
  refine JL.callP H fb165 rfl rfl (away_c g lv _ _ _ hS hsb.2 hy) ?_
  intro w1 H _
  refine JL.pure rfl rfl ?_
  refine JL.nil ?_
  ((repeat refine Ex.normal_block ?_); refine Ex.next ?_)
  ((repeat refine JC.seq ?_); refine JC.region ?_)
  refine JL.pure rfl rfl ?_
  refine JL.load rfl sh3 (hr.grow h3 H.below) rfl ?_
  refine JL.pure rfl rfl ?_
  refine JL.nil ?_
  ((repeat refine Ex.normal_block ?_); refine Ex.next ?_)
  ((repeat refine JC.seq ?_); refine JC.cond rfl ?_ ?_)
  · intro h16
    (try simp only [Bool.not_eq_true', Bool.not_eq_false', decide_eq_true_eq, decide_eq_false_iff_not] at h16)
    
    ((repeat refine JC.seq ?_); refine JC.region ?_)
    refine JL.pure rfl rfl ?_
    refine JL.pure rfl rfl ?_
    refine JL.nil ?_
    ((repeat refine Ex.normal_block ?_); refine Ex.next ?_)
    ((repeat refine JC.seq ?_); refine JC.ret ?_)
    (repeat (first | refine Ex.ret_then ?_ | refine Ex.ret_block ?_))
    refine Ex.ret2 rfl (.tmp rfl) (.tmp rfl) ⟨?_, H.below⟩
    unfold discRow; rw [if_pos h16]
  · intro h16
    (try simp only [Bool.not_eq_true', Bool.not_eq_false', decide_eq_true_eq, decide_eq_false_iff_not] at h16)
    obtain ⟨d, hd⟩ : ∃ d, d = awayI g.S s.Y y := ⟨_, rfl⟩
    rw [← hd] at h16
    have hd0 : 0 ≤ d := by rw [hd]; unfold awayI; omega
    have hdd : d * d ≤ radius * radius := (sq_le hd0 hra.1).1 (by omega)
    have hrr : radius * radius ≤ 16777216 * 16777216 := Int.mul_le_mul hra.2 hra.2 hra.1 (by omega)
    have hd2 : 0 ≤ d * d := Int.mul_nonneg hd0 hd0
    obtain ⟨q, hq⟩ : ∃ q, q = rootI (radius * radius - d * d) := ⟨_, rfl⟩
    have hqr := rootI_ok (n := radius * radius - d * d) (by omega) (by omega)
    rw [← hq] at hqr
    have hqb : q ≤ radius := (sq_le hqr.1 hra.1).2 (by omega)
    have hrow : discRow g s radius y = ((s.X - q) / g.S, (s.X + q) / g.S) := by
      unfold discRow; rw [← hd, if_neg h16, ← hq]
    rw [← hd]
    ((repeat refine JC.seq ?_); refine JC.skip ?_)
    ((repeat refine Ex.normal_block ?_); refine Ex.next ?_)
    ((repeat refine JC.seq ?_); refine JC.region ?_)
    refine JL.load rfl sh3 (hr.grow h3 H.below) rfl ?_
    refine JL.load rfl sh3 (hr.grow h3 H.below) rfl ?_
    refine JL.arith rfl (by unfold In64; omega) rfl ?_
    refine JL.pure rfl rfl ?_
    refine JL.pure rfl rfl ?_
    refine JL.arith rfl (by unfold In64; omega) rfl ?_
    refine JL.arith rfl (by unfold In64; omega) rfl ?_
    refine JL.callP H fb166 rfl rfl (root_c _ _ (by omega) (by omega)) ?_
    intro w2 H _
    rw [← hq]
    refine JL.pure rfl rfl ?_
    refine JL.nil ?_
    ((repeat refine Ex.normal_block ?_); refine Ex.next ?_)
    ((repeat refine JC.seq ?_); refine JC.draw 16 H mixed (by kernel_rfl) rfl ?_)
    refine JD.fieldAddr rfl Try.underlying23 rfl sh3 rfl ?_
    refine JD.load rfl sh3 (fun w hw => (hs.part 0 rfl 1).grow h2 hw.below) rfl ?_
    refine JD.pure rfl rfl ?_
    refine JD.arith rfl (by unfold In64; omega) rfl ?_
    refine JD.fieldAddr rfl Try.underlying52 rfl sh3 rfl ?_
    refine JD.load rfl sh3 (fun w hw => (hg.part 2 rfl 1).grow h1 hw.below) rfl ?_
    refine JD.call fb143 rfl rfl (fun w hw => floor_c _ _ w (by omega) (by omega) (by omega)) ?_
    refine JD.fieldAddr rfl Try.underlying23 rfl sh3 rfl ?_
    refine JD.load rfl sh3 (fun w hw => (hs.part 0 rfl 1).grow h2 hw.below) rfl ?_
    refine JD.pure rfl rfl ?_
    refine JD.arith rfl (by unfold In64; omega) rfl ?_
    refine JD.fieldAddr rfl Try.underlying52 rfl sh3 rfl ?_
    refine JD.load rfl sh3 (fun w hw => (hg.part 2 rfl 1).grow h1 hw.below) rfl ?_
    refine JD.call fb143 rfl rfl (fun w hw => floor_c _ _ w (by omega) (by omega) (by omega)) ?_
    refine JD.pure rfl rfl ?_
    refine JD.pure rfl rfl ?_
    refine JD.nil ?_
    intro w3 H
    show JL _ _ _ _ _ _ _
    refine JL.nil ?_
    ((repeat refine Ex.normal_block ?_); refine Ex.next ?_)
    ((repeat refine JC.seq ?_); refine JC.ret ?_)
    (repeat (first | refine Ex.ret_then ?_ | refine Ex.ret_block ?_))
    refine Ex.ret2 rfl (.tmp rfl) (.tmp rfl) ⟨?_, H.below⟩
    rw [hrow]
theorem rootI_le {n m : Int} (h0 : 0 ≤ n) (hn : n < 4611686018427387904) (hm : 0 ≤ m) (h : n ≤ m * m) : rootI n ≤ m := by
  have h1 := rootI_ok h0 hn
  exact (sq_le h1.1 hm).2 (by omega)
theorem discRow_bd {g : Grid} {s : Spot} {radius y : Int} (hS : 1 ≤ g.S) (hso : s.ok = true) (hra : 0 ≤ radius ∧ radius ≤ 16777216) : -1000000000000 ≤ (discRow g s radius y).2 ∧ (discRow g s radius y).2 ≤ 1000000000000 := by
  have hsb := Spot.ok_b hso
  unfold discRow
  split
  · simp
  · rename_i h
    have hd0 : 0 ≤ awayI g.S s.Y y := by unfold awayI; omega
    have hdd : awayI g.S s.Y y * awayI g.S s.Y y ≤ radius * radius := (sq_le hd0 hra.1).1 (by omega)
    have hrr : radius * radius ≤ 16777216 * 16777216 := Int.mul_le_mul hra.2 hra.2 hra.1 (by omega)
    have hd2 : 0 ≤ awayI g.S s.Y y * awayI g.S s.Y y := Int.mul_nonneg hd0 hd0
    have h1 := rootI_ok (n := radius * radius - awayI g.S s.Y y * awayI g.S s.Y y) (by omega) (by omega)
    have h2 := rootI_le (n := radius * radius - awayI g.S s.Y y * awayI g.S s.Y y) (by omega) (by omega) hra.1 (by omega)
    have := ediv_bd (a := s.X + rootI (radius * radius - awayI g.S s.Y y * awayI g.S s.Y y)) (M := 100000000) hS (by omega) (by omega) (by omega)
    simp only
    omega
theorem disc_c (g : Grid) (lv : Value) (s : Spot) (radius : Int) (w : World) (hl : SlR w lv g.land) : Calls Try.prog 77 #[g.ev lv, s.ev, .int .i64 radius] w (fun e w' => ResR w w' [] (discR g s radius) e) := by
  refine calls_J (args := [g.ev lv, s.ev, .int .i64 radius]) Try.func77 rfl Try.ntmps77 rfl ?_
  have H := Own.start w
  ((repeat refine JC.seq ?_); refine JC.region ?_)
  refine JL.box H rfl rfl rfl ?_
  intro b3 w1 H
  refine JL.box H rfl rfl rfl ?_
  intro b4 w2 H
  refine JL.box H rfl rfl rfl ?_
  intro b5 w3 H
  refine JL.pure rfl rfl ?_
  refine JL.pure rfl rfl ?_
  refine JL.nil ?_
  ((repeat refine Ex.normal_block ?_); refine Ex.next ?_)
  ((repeat refine JC.seq ?_); refine JC.region ?_)
  refine JL.loadB 2 H rfl sh52 rfl rfl rfl ?_
  refine JL.callP H fb141 rfl rfl (checkGrid_c g lv _ (hl.grow H.below)) ?_
  intro w4 H _
  refine JL.pure rfl rfl ?_
  refine JL.pure rfl rfl ?_
  refine JL.cases 11 rfl ?_ ?_
  · intro h11
    (try simp only [Bool.not_eq_true', Bool.not_eq_false', decide_eq_true_eq, decide_eq_false_iff_not] at h11)
    have hok : g.ok = false := by
      cases hc : g.ok with
      | false => rfl
      | true => exfalso; rw [hc] at h11; simp at h11
    refine JL.pass rfl rfl rfl rfl ?_
    refine JL.pass rfl rfl rfl rfl ?_
    refine JL.pass rfl rfl rfl rfl ?_
    refine JL.pass rfl rfl rfl rfl ?_
    refine JL.pure rfl rfl ?_
    refine JL.pure rfl rfl ?_
    refine JL.pass rfl rfl rfl rfl ?_
    refine JL.pass rfl rfl rfl rfl ?_
    refine JL.pass rfl rfl rfl rfl ?_
    refine JL.pure rfl rfl ?_
    refine JL.nil ?_
    ((repeat refine Ex.normal_block ?_); refine Ex.next ?_)
    ((repeat refine JC.seq ?_); refine JC.cond rfl (fun _ => ?_) (fun h => by cases h))
    ((repeat refine JC.seq ?_); refine JC.region ?_)
    refine JL.pure rfl rfl ?_
    refine JL.pure rfl rfl ?_
    refine JL.nil ?_
    ((repeat refine Ex.normal_block ?_); refine Ex.next ?_)
    ((repeat refine JC.seq ?_); refine JC.ret ?_)
    (repeat (first | refine Ex.ret_then ?_ | refine Ex.ret_block ?_))
    refine Ex.ret2 rfl (.tmp rfl) (.tmp rfl) ?_
    unfold discR ResR; rw [hok]
    exact ⟨_, rfl, (((H.drop 0).drop 0).drop 0).nilRow 140 3⟩
  · intro h11
    (try simp only [Bool.not_eq_true', Bool.not_eq_false', decide_eq_true_eq, decide_eq_false_iff_not] at h11)
    have hok : g.ok = true := by
      cases hc : g.ok with
      | true => rfl
      | false => exfalso; rw [hc] at h11; simp at h11
    obtain ⟨hgW, hgH, hgS, hgl⟩ := Grid.ok_b hok
    refine JL.want rfl rfl ?_
    refine JL.loadB 1 H rfl sh23 rfl rfl rfl ?_
    refine JL.want rfl rfl ?_
    refine JL.buildSlice H Try.underlying27 sh23 z23 rfl rfl rfl rfl rfl ?_
    intro b13 w5 H
    refine JL.want rfl rfl ?_
    refine JL.callP H fb142 rfl rfl (near_c _ [s] _ (H.blkSl (j := 0) (enc := fun s : Spot => [.int .i64 s.X, .int .i64 s.Y]) rfl [s] rfl (fun _ => rfl) (by simp))) ?_
    intro w6 H _
    refine JL.want rfl rfl ?_
    refine JL.pure rfl rfl ?_
    refine JL.pure rfl rfl ?_
    refine JL.pure rfl rfl ?_
    refine JL.cases 17 rfl ?_ ?_
    · intro h17
      (try simp only [Bool.not_eq_true', Bool.not_eq_false', decide_eq_true_eq, decide_eq_false_iff_not] at h17)
      refine JL.pass rfl rfl rfl rfl ?_
      refine JL.pass rfl rfl rfl rfl ?_
      refine JL.pass rfl rfl rfl rfl ?_
      refine JL.pure rfl rfl ?_
      refine JL.nil ?_
      ((repeat refine Ex.normal_block ?_); refine Ex.next ?_)
      ((repeat refine JC.seq ?_); refine JC.cond rfl (fun _ => ?_) (fun h => by cases h))
      ((repeat refine JC.seq ?_); refine JC.region ?_)
      refine JL.pure rfl rfl ?_
      refine JL.pure rfl rfl ?_
      refine JL.nil ?_
      ((repeat refine Ex.normal_block ?_); refine Ex.next ?_)
      ((repeat refine JC.seq ?_); refine JC.ret ?_)
      (repeat (first | refine Ex.ret_then ?_ | refine Ex.ret_block ?_))
      refine Ex.ret2 rfl (.tmp rfl) (.tmp rfl) ?_
      have hs : s.ok = false := by simpa using h17
      unfold discR ResR; rw [hok, hs]
      exact ⟨_, rfl, ((((H.drop 0).drop 0).drop 0).drop 0).nilRow 140 3⟩
    · intro h17
      (try simp only [Bool.not_eq_true', Bool.not_eq_false', decide_eq_true_eq, decide_eq_false_iff_not] at h17)
      refine JL.want rfl rfl ?_
      refine JL.loadB 1 H rfl sh3 rfl rfl rfl ?_
      refine JL.want rfl rfl ?_
      refine JL.callP H fb144 rfl rfl (within_c _ _ _ _) ?_
      intro w7 H _
      refine JL.want rfl rfl ?_
      refine JL.pure rfl rfl ?_
      refine JL.pure rfl rfl ?_
      refine JL.nil ?_
      ((repeat refine Ex.normal_block ?_); refine Ex.next ?_)
      ((repeat refine JC.seq ?_); refine JC.cond rfl ?_ ?_)
      · intro h21
        (try simp only [Bool.not_eq_true', Bool.not_eq_false', decide_eq_true_eq, decide_eq_false_iff_not] at h21)
        
        ((repeat refine JC.seq ?_); refine JC.region ?_)
        refine JL.pure rfl rfl ?_
        refine JL.pure rfl rfl ?_
        refine JL.nil ?_
        ((repeat refine Ex.normal_block ?_); refine Ex.next ?_)
        ((repeat refine JC.seq ?_); refine JC.ret ?_)
        (repeat (first | refine Ex.ret_then ?_ | refine Ex.ret_block ?_))
        refine Ex.ret2 rfl (.tmp rfl) (.tmp rfl) ?_
        have hs : s.ok = true := by simpa using h17
        have hra : ¬ (0 ≤ radius ∧ radius ≤ 16777216) := by simpa using h21
        unfold discR ResR; rw [hok, hs, decide_eq_false hra]
        exact ⟨_, rfl, ((((H.drop 0).drop 0).drop 0).drop 0).nilRow 140 3⟩
      · intro h21
        (try simp only [Bool.not_eq_true', Bool.not_eq_false', decide_eq_true_eq, decide_eq_false_iff_not] at h21)
        have hs : s.ok = true := by simpa using h17
        have hra : 0 ≤ radius ∧ radius ≤ 16777216 := by simpa using h21
        ((repeat refine JC.seq ?_); refine JC.skip ?_)
        ((repeat refine Ex.normal_block ?_); refine Ex.next ?_)
        ((repeat refine JC.seq ?_); refine JC.region ?_)
        refine JL.loadB 3 H rfl sh52 rfl rfl rfl ?_
        refine JL.pure rfl rfl ?_
        have hg1 := H.get (i := 3) rfl
        have hg2 := H.get (i := 2) rfl
        have hg3 := H.get (i := 1) rfl
        have l1 := lt_of_block hg1.2
        have l2 := lt_of_block hg2.2
        have l3 := lt_of_block hg3.2
        refine JL.call fb163 rfl rfl (filled_c g lv 164 [.pointer (some ⟨b3, 0, none⟩), .pointer (some ⟨b4, 0, none⟩), .pointer (some ⟨b5, 0, none⟩)] (discRow g s radius) _ hgW hgH fb164 (fun w' hb' y hy0 hy1 => ⟨disc1_c g lv s radius y b3 b4 b5 w' (Nat.lt_of_lt_of_le l1 hb'.size) (Nat.lt_of_lt_of_le l2 hb'.size) (Nat.lt_of_lt_of_le l3 hb'.size) ((LdAt.of_block hg1.2 rfl).grow l1 hb') ((LdAt.of_block hg2.2 rfl).grow l2 hb') ((LdAt.of_block hg3.2 rfl).grow l3 hb') hgS hs hra ⟨hy0, by omega⟩, discRow_bd hgS.1 hs hra⟩)) ?_
        rintro _ w8 ⟨rv, rfl, K⟩
        have H := H.join K
        refine ⟨_, rfl, ?_⟩
        refine JL.pure rfl rfl ?_
        refine JL.pure rfl rfl ?_
        refine JL.pure rfl rfl ?_
        refine JL.pure rfl rfl ?_
        refine JL.nil ?_
        ((repeat refine Ex.normal_block ?_); refine Ex.next ?_)
        ((repeat refine JC.seq ?_); refine JC.ret ?_)
        (repeat (first | refine Ex.ret_then ?_ | refine Ex.ret_block ?_))
        refine Ex.ret2 rfl (.tmp rfl) (.tmp rfl) ?_
        unfold discR; rw [hok, hs]
        simp only [Bool.and_self, Bool.true_and, decide_eq_true hra, if_true]
        exact ⟨_, rfl, ((((H.drop 1).drop 1).drop 1).drop 1)⟩
end Go.J

namespace Go.J
open Go.RowKit Go.Proofs
set_option maxRecDepth 8000
set_option linter.unusedSimpArgs false
set_option linter.unusedVariables false
theorem half1_c (g : Grid) (lv : Value) (a b : Spot) (c : Cell) (βb βa βg : Nat) (w : World) (h1 : βb < w.heap.size) (h2 : βa < w.heap.size) (h3 : βg < w.heap.size) (hb : LdAt w βb 0 (true, 2) b.ev) (ha : LdAt w βa 0 (true, 2) a.ev)
    (hg : LdAt w βg 0 (true, 4) (g.ev lv)) (hS : 1 ≤ g.S ∧ g.S ≤ 50000) (hao : a.ok = true) (hbo : b.ok = true) (hcx : 0 ≤ c.X ∧ c.X ≤ 256) (hcy : 0 ≤ c.Y ∧ c.Y ≤ 256) :
    Pur Try.prog 167 #[c.ev, .pointer (some ⟨βb, 0, none⟩), .pointer (some ⟨βa, 0, none⟩), .pointer (some ⟨βg, 0, none⟩)] w (.bool (leftI g a b c)) := by
  refine pur_J (args := [c.ev, .pointer (some ⟨βb, 0, none⟩), .pointer (some ⟨βa, 0, none⟩), .pointer (some ⟨βg, 0, none⟩)]) Try.func167 rfl Try.ntmps167 rfl ?_
  have H := Own.start w
  have hab := Spot.ok_b hao
  have hbb := Spot.ok_b hbo
  have m1 := mul_bd (M := 0) hcx.1 hcx.2 (show 0 ≤ g.S by omega) hS.2
  have m2 := mul_bd (M := 0) hcy.1 hcy.2 (show 0 ≤ g.S by omega) hS.2
  ((repeat refine JC.seq ?_); refine JC.region ?_)
  refine JL.box H rfl rfl rfl ?_
  intro b4 w1 H
  refine JL.pure rfl rfl ?_
  refine JL.nil ?_
  ((repeat refine Ex.normal_block ?_); refine Ex.next ?_)
  ((repeat refine JC.seq ?_); refine JC.draw 12 H mixed (by kernel_rfl) rfl ?_)
  refine JD.fieldAddr rfl Try.underlying23 rfl sh3 rfl ?_
  refine JD.load rfl sh3 (fun w hw => (hb.part 0 rfl 1).grow h1 hw.below) rfl ?_
  refine JD.fieldAddr rfl Try.underlying23 rfl sh3 rfl ?_
  refine JD.load rfl sh3 (fun w hw => (ha.part 0 rfl 1).grow h2 hw.below) rfl ?_
  refine JD.arith rfl (by unfold In64; omega) rfl ?_
  refine JD.fieldAddr rfl Try.underlying23 rfl sh3 rfl ?_
  refine JD.load rfl sh3 (fun w hw => (hb.part 1 rfl 1).grow h1 hw.below) rfl ?_
  refine JD.fieldAddr rfl Try.underlying23 rfl sh3 rfl ?_
  refine JD.load rfl sh3 (fun w hw => (ha.part 1 rfl 1).grow h2 hw.below) rfl ?_
  refine JD.arith rfl (by unfold In64; omega) rfl ?_
  refine JD.pure rfl rfl ?_
  refine JD.pure rfl rfl ?_
  refine JD.nil ?_
  intro w2 H
  show JL _ _ _ _ _ _ _
  refine JL.nil ?_
  ((repeat refine Ex.normal_block ?_); refine Ex.next ?_)
  ((repeat refine JC.seq ?_); refine JC.region ?_)
  refine JL.fieldAddr rfl Try.underlying62 rfl sh3 rfl ?_
  refine JL.loadB 0 H rfl sh3 rfl rfl rfl ?_
  refine JL.fieldAddr rfl Try.underlying52 rfl sh3 rfl ?_
  refine JL.load rfl sh3 ((hg.part 2 rfl 1).grow h3 H.below) rfl ?_
  refine JL.arith rfl (by unfold In64; omega) rfl ?_
  refine JL.fieldAddr rfl Try.underlying62 rfl sh3 rfl ?_
  refine JL.loadB 0 H rfl sh3 rfl rfl rfl ?_
  refine JL.fieldAddr rfl Try.underlying52 rfl sh3 rfl ?_
  refine JL.load rfl sh3 ((hg.part 2 rfl 1).grow h3 H.below) rfl ?_
  refine JL.arith rfl (by unfold In64; omega) rfl ?_
  refine JL.build s23 rfl rfl ?_
  refine JL.alloc H z23 rfl ?_
  intro b8 w3 H
  refine JL.storeB 0 H rfl rfl sh23 rfl rfl rfl rfl rfl ?_
  intro w4 H
  refine JL.nil ?_
  ((repeat refine Ex.normal_block ?_); refine Ex.next ?_)
  ((repeat refine JC.seq ?_); refine JC.region ?_)
  refine JL.pure rfl rfl ?_
  refine JL.pure rfl rfl ?_
  refine JL.nil ?_
  ((repeat refine Ex.normal_block ?_); refine Ex.next ?_)
  ((repeat refine JC.seq ?_); refine JC.cond rfl ?_ ?_)
  · intro h31
    (try simp only [Bool.not_eq_true', Bool.not_eq_false', decide_eq_true_eq, decide_eq_false_iff_not] at h31)
    ((repeat refine JC.seq ?_); refine JC.region ?_)
    refine JL.fieldAddr rfl Try.underlying23 rfl sh3 rfl ?_
    refine JL.loadB 0 H rfl sh3 rfl rfl rfl ?_
    refine JL.fieldAddr rfl Try.underlying52 rfl sh3 rfl ?_
    refine JL.load rfl sh3 ((hg.part 2 rfl 1).grow h3 H.below) rfl ?_
    refine JL.arith rfl (by unfold In64; omega) rfl ?_
    refine JL.arith rfl (by unfold In64; omega) rfl ?_
    refine JL.fieldAddr rfl Try.underlying23 rfl sh3 rfl ?_
    refine JL.storeB 0 H rfl rfl sh3 rfl rfl rfl rfl rfl ?_
    intro w5 H
    refine JL.nil ?_
    ((repeat refine Ex.normal_block ?_); refine Ex.next ?_)
    ((repeat refine JC.seq ?_); refine JC.region ?_)
    refine JL.pure rfl rfl ?_
    refine JL.pure rfl rfl ?_
    refine JL.nil ?_
    ((repeat refine Ex.normal_block ?_); refine Ex.next ?_)
    ((repeat refine JC.seq ?_); refine JC.cond rfl ?_ ?_)
    · intro h40
      (try simp only [Bool.not_eq_true', Bool.not_eq_false', decide_eq_true_eq, decide_eq_false_iff_not] at h40)
      ((repeat refine JC.seq ?_); refine JC.region ?_)
      refine JL.fieldAddr rfl Try.underlying23 rfl sh3 rfl ?_
      refine JL.loadB 0 H rfl sh3 rfl rfl rfl ?_
      refine JL.fieldAddr rfl Try.underlying52 rfl sh3 rfl ?_
      refine JL.load rfl sh3 ((hg.part 2 rfl 1).grow h3 H.below) rfl ?_
      refine JL.arith rfl (by unfold In64; omega) rfl ?_
      refine JL.arith rfl (by unfold In64; omega) rfl ?_
      refine JL.fieldAddr rfl Try.underlying23 rfl sh3 rfl ?_
      refine JL.storeB 0 H rfl rfl sh3 rfl rfl rfl rfl rfl ?_
      intro w6 H
      refine JL.nil ?_
      ((repeat refine Ex.normal_block ?_); refine Ex.next ?_)
      ((repeat refine JC.seq ?_); refine JC.region ?_)
      refine JL.pure rfl rfl ?_
      refine JL.fieldAddr rfl Try.underlying23 rfl sh3 rfl ?_
      refine JL.loadB 0 H rfl sh3 rfl rfl rfl ?_
      refine JL.fieldAddr rfl Try.underlying23 rfl sh3 rfl ?_
      refine JL.load rfl sh3 ((ha.part 1 rfl 1).grow h2 H.below) rfl ?_
      refine JL.arith rfl (by unfold In64; omega) rfl ?_
      refine JL.pure rfl rfl ?_
      refine JL.pure rfl rfl ?_
      refine JL.fieldAddr rfl Try.underlying23 rfl sh3 rfl ?_
      refine JL.loadB 0 H rfl sh3 rfl rfl rfl ?_
      refine JL.fieldAddr rfl Try.underlying23 rfl sh3 rfl ?_
      refine JL.load rfl sh3 ((ha.part 0 rfl 1).grow h2 H.below) rfl ?_
      refine JL.arith rfl (by unfold In64; omega) rfl ?_
      refine JL.pure rfl rfl ?_
      refine JL.pure rfl rfl ?_
      refine JL.pure rfl rfl ?_
      refine JL.pure rfl rfl ?_
      refine JL.nil ?_
      ((repeat refine Ex.normal_block ?_); refine Ex.next ?_)
      ((repeat refine JC.seq ?_); refine JC.ret ?_)
      (repeat (first | refine Ex.ret_then ?_ | refine Ex.ret_block ?_))
      refine Ex.ret1 rfl (.tmp rfl) ⟨?_, H.below⟩
      rw [w64_left (by omega) (by omega) (by omega) (by omega)]
      unfold leftI
      simp only [gt_iff_lt, h31, h40, if_true, if_false]
    · intro h40
      (try simp only [Bool.not_eq_true', Bool.not_eq_false', decide_eq_true_eq, decide_eq_false_iff_not] at h40)
      ((repeat refine JC.seq ?_); refine JC.skip ?_)
      ((repeat refine Ex.normal_block ?_); refine Ex.next ?_)
      ((repeat refine JC.seq ?_); refine JC.region ?_)
      refine JL.pure rfl rfl ?_
      refine JL.fieldAddr rfl Try.underlying23 rfl sh3 rfl ?_
      refine JL.loadB 0 H rfl sh3 rfl rfl rfl ?_
      refine JL.fieldAddr rfl Try.underlying23 rfl sh3 rfl ?_
      refine JL.load rfl sh3 ((ha.part 1 rfl 1).grow h2 H.below) rfl ?_
      refine JL.arith rfl (by unfold In64; omega) rfl ?_
      refine JL.pure rfl rfl ?_
      refine JL.pure rfl rfl ?_
      refine JL.fieldAddr rfl Try.underlying23 rfl sh3 rfl ?_
      refine JL.loadB 0 H rfl sh3 rfl rfl rfl ?_
      refine JL.fieldAddr rfl Try.underlying23 rfl sh3 rfl ?_
      refine JL.load rfl sh3 ((ha.part 0 rfl 1).grow h2 H.below) rfl ?_
      refine JL.arith rfl (by unfold In64; omega) rfl ?_
      refine JL.pure rfl rfl ?_
      refine JL.pure rfl rfl ?_
      refine JL.pure rfl rfl ?_
      refine JL.pure rfl rfl ?_
      refine JL.nil ?_
      ((repeat refine Ex.normal_block ?_); refine Ex.next ?_)
      ((repeat refine JC.seq ?_); refine JC.ret ?_)
      (repeat (first | refine Ex.ret_then ?_ | refine Ex.ret_block ?_))
      refine Ex.ret1 rfl (.tmp rfl) ⟨?_, H.below⟩
      rw [w64_left (by omega) (by omega) (by omega) (by omega)]
      unfold leftI
      simp only [gt_iff_lt, h31, h40, if_true, if_false]
  · intro h31
    (try simp only [Bool.not_eq_true', Bool.not_eq_false', decide_eq_true_eq, decide_eq_false_iff_not] at h31)
    ((repeat refine JC.seq ?_); refine JC.skip ?_)
    ((repeat refine Ex.normal_block ?_); refine Ex.next ?_)
    ((repeat refine JC.seq ?_); refine JC.region ?_)
    refine JL.pure rfl rfl ?_
    refine JL.pure rfl rfl ?_
    refine JL.nil ?_
    ((repeat refine Ex.normal_block ?_); refine Ex.next ?_)
    ((repeat refine JC.seq ?_); refine JC.cond rfl ?_ ?_)
    · intro h40
      (try simp only [Bool.not_eq_true', Bool.not_eq_false', decide_eq_true_eq, decide_eq_false_iff_not] at h40)
      ((repeat refine JC.seq ?_); refine JC.region ?_)
      refine JL.fieldAddr rfl Try.underlying23 rfl sh3 rfl ?_
      refine JL.loadB 0 H rfl sh3 rfl rfl rfl ?_
      refine JL.fieldAddr rfl Try.underlying52 rfl sh3 rfl ?_
      refine JL.load rfl sh3 ((hg.part 2 rfl 1).grow h3 H.below) rfl ?_
      refine JL.arith rfl (by unfold In64; omega) rfl ?_
      refine JL.arith rfl (by unfold In64; omega) rfl ?_
      refine JL.fieldAddr rfl Try.underlying23 rfl sh3 rfl ?_
      refine JL.storeB 0 H rfl rfl sh3 rfl rfl rfl rfl rfl ?_
      intro w7 H
      refine JL.nil ?_
      ((repeat refine Ex.normal_block ?_); refine Ex.next ?_)
      ((repeat refine JC.seq ?_); refine JC.region ?_)
      refine JL.pure rfl rfl ?_
      refine JL.fieldAddr rfl Try.underlying23 rfl sh3 rfl ?_
      refine JL.loadB 0 H rfl sh3 rfl rfl rfl ?_
      refine JL.fieldAddr rfl Try.underlying23 rfl sh3 rfl ?_
      refine JL.load rfl sh3 ((ha.part 1 rfl 1).grow h2 H.below) rfl ?_
      refine JL.arith rfl (by unfold In64; omega) rfl ?_
      refine JL.pure rfl rfl ?_
      refine JL.pure rfl rfl ?_
      refine JL.fieldAddr rfl Try.underlying23 rfl sh3 rfl ?_
      refine JL.loadB 0 H rfl sh3 rfl rfl rfl ?_
      refine JL.fieldAddr rfl Try.underlying23 rfl sh3 rfl ?_
      refine JL.load rfl sh3 ((ha.part 0 rfl 1).grow h2 H.below) rfl ?_
      refine JL.arith rfl (by unfold In64; omega) rfl ?_
      refine JL.pure rfl rfl ?_
      refine JL.pure rfl rfl ?_
      refine JL.pure rfl rfl ?_
      refine JL.pure rfl rfl ?_
      refine JL.nil ?_
      ((repeat refine Ex.normal_block ?_); refine Ex.next ?_)
      ((repeat refine JC.seq ?_); refine JC.ret ?_)
      (repeat (first | refine Ex.ret_then ?_ | refine Ex.ret_block ?_))
      refine Ex.ret1 rfl (.tmp rfl) ⟨?_, H.below⟩
      rw [w64_left (by omega) (by omega) (by omega) (by omega)]
      unfold leftI
      simp only [gt_iff_lt, h31, h40, if_true, if_false]
    · intro h40
      (try simp only [Bool.not_eq_true', Bool.not_eq_false', decide_eq_true_eq, decide_eq_false_iff_not] at h40)
      ((repeat refine JC.seq ?_); refine JC.skip ?_)
      ((repeat refine Ex.normal_block ?_); refine Ex.next ?_)
      ((repeat refine JC.seq ?_); refine JC.region ?_)
      refine JL.pure rfl rfl ?_
      refine JL.fieldAddr rfl Try.underlying23 rfl sh3 rfl ?_
      refine JL.loadB 0 H rfl sh3 rfl rfl rfl ?_
      refine JL.fieldAddr rfl Try.underlying23 rfl sh3 rfl ?_
      refine JL.load rfl sh3 ((ha.part 1 rfl 1).grow h2 H.below) rfl ?_
      refine JL.arith rfl (by unfold In64; omega) rfl ?_
      refine JL.pure rfl rfl ?_
      refine JL.pure rfl rfl ?_
      refine JL.fieldAddr rfl Try.underlying23 rfl sh3 rfl ?_
      refine JL.loadB 0 H rfl sh3 rfl rfl rfl ?_
      refine JL.fieldAddr rfl Try.underlying23 rfl sh3 rfl ?_
      refine JL.load rfl sh3 ((ha.part 0 rfl 1).grow h2 H.below) rfl ?_
      refine JL.arith rfl (by unfold In64; omega) rfl ?_
      refine JL.pure rfl rfl ?_
      refine JL.pure rfl rfl ?_
      refine JL.pure rfl rfl ?_
      refine JL.pure rfl rfl ?_
      refine JL.nil ?_
      ((repeat refine Ex.normal_block ?_); refine Ex.next ?_)
      ((repeat refine JC.seq ?_); refine JC.ret ?_)
      (repeat (first | refine Ex.ret_then ?_ | refine Ex.ret_block ?_))
      refine Ex.ret1 rfl (.tmp rfl) ⟨?_, H.below⟩
      rw [w64_left (by omega) (by omega) (by omega) (by omega)]
      unfold leftI
      simp only [gt_iff_lt, h31, h40, if_true, if_false]
def clHalf (βb βa βg : Nat) : Value := .func (.func 167) #[] ⟨[.pointer (some ⟨βb, 0, none⟩), .pointer (some ⟨βa, 0, none⟩), .pointer (some ⟨βg, 0, none⟩)]⟩
theorem half2_c (g : Grid) (lv : Value) (a b : Spot) (y : Int) (βb βa βg βf : Nat) (w : World) (h1 : βb < w.heap.size) (h2 : βa < w.heap.size) (h3 : βg < w.heap.size) (h4 : βf < w.heap.size) (hb : LdAt w βb 0 (true, 2) b.ev) (ha : LdAt w βa 0 (true, 2) a.ev)
    (hg : LdAt w βg 0 (true, 4) (g.ev lv)) (hf : LdAt w βf 0 (false, 1) (clHalf βb βa βg)) (hW : 1 ≤ g.W ∧ g.W ≤ 256) (hS : 1 ≤ g.S ∧ g.S ≤ 50000) (hao : a.ok = true) (hbo : b.ok = true) (hy : 0 ≤ y ∧ y ≤ 256) :
    Pur Try.prog 168 #[.int .i64 y, .pointer (some ⟨βg, 0, none⟩), .pointer (some ⟨βf, 0, none⟩)] w (.tuple #[.int .i64 (halfRow g a b y).1, .int .i64 (halfRow g a b y).2]) := by
  refine pur_J (args := [.int .i64 y, .pointer (some ⟨βg, 0, none⟩), .pointer (some ⟨βf, 0, none⟩)]) Try.func168 rfl Try.ntmps168 rfl ?_
  have H := Own.start w
  have hc : ∀ w', Below w.heap.size w w' → ∀ x : Int, 0 ≤ x → x ≤ 256 → Pur Try.prog 167 (([] : List Value) ++ [Value.agg ⟨[.int .i64 x, .int .i64 y]⟩] ++ [Value.pointer (some ⟨βb, 0, none⟩), Value.pointer (some ⟨βa, 0, none⟩), Value.pointer (some ⟨βg, 0, none⟩)]).toArray w' (.bool (leftI g a b ⟨x, y⟩)) :=
    fun w' hB x hx0 hx1 => half1_c g lv a b ⟨x, y⟩ βb βa βg w' (Nat.lt_of_lt_of_le h1 hB.size) (Nat.lt_of_lt_of_le h2 hB.size) (Nat.lt_of_lt_of_le h3 hB.size) (hb.grow h1 hB) (ha.grow h2 hB) (hg.grow h3 hB) hS hao hbo ⟨hx0, hx1⟩ hy
  ((repeat refine JC.seq ?_); refine JC.region ?_)
  refine JL.pure rfl rfl ?_
  refine JL.pure rfl rfl ?_
  refine JL.nil ?_
  ((repeat refine Ex.normal_block ?_); refine Ex.next ?_)
  ((repeat refine JC.seq ?_); refine JC.draw 5 H mixed (by kernel_rfl) rfl ?_)
  refine JD.fieldAddr rfl Try.underlying52 rfl sh3 rfl ?_
  refine JD.load rfl sh3 (fun w hw => (hg.part 0 rfl 1).grow h3 hw.below) rfl ?_
  refine JD.arith rfl (by unfold In64; omega) rfl ?_
  refine JD.pure rfl rfl ?_
  refine JD.pure rfl rfl ?_
  refine JD.nil ?_
  intro w1 H
  show JL _ _ _ _ _ _ _
  refine JL.nil ?_
  ((repeat refine Ex.normal_block ?_); refine Ex.next ?_)
  ((repeat refine JC.seq ?_); refine JC.block ?_)
  ((repeat refine JC.seq ?_); refine JC.loop (ι := Nat × Int) (fun x => [(0, .int .i64 y), (1, .pointer (some ⟨βg, 0, none⟩)), (2, .pointer (some ⟨βf, 0, none⟩)), (6, .int .i64 x.2), (7, .int .i64 (g.W - 1))])
    (fun x wr => (0 ≤ x.2 ∧ x.2 ≤ g.W ∧ g.W - x.2 < x.1) ∧ upTo (fun x => leftI g a b ⟨x, y⟩) (g.W - 1) x.1 x.2 = halfFrom g a b y ∧ Own w wr [])
    (fun x => x.1) (g.W.toNat + 1, 0) ?_ ?_ ?_)
  · exact ⟨rfl, rfl, rfl, rfl, rfl, trivial⟩
  · exact ⟨⟨by simp only; omega, by simp only; omega, by simp only; omega⟩, rfl, H⟩
  · rintro ⟨f, fr⟩ wr ⟨⟨hf0, hf1, hff⟩, hu, H⟩
    simp only at hf0 hf1 hff hu H
    obtain ⟨f, rfl⟩ : ∃ f', f = f' + 1 := by
      cases f with
      | zero => exfalso; omega
      | succ f' => exact ⟨f', rfl⟩
    unfold upTo at hu
    show JC _ _ _ _ [(0, .int .i64 y), (1, .pointer (some ⟨βg, 0, none⟩)), (2, .pointer (some ⟨βf, 0, none⟩)), (6, .int .i64 fr), (7, .int .i64 (g.W - 1))] _
    ((repeat refine JC.seq ?_); refine JC.regionTo ([(0, .int .i64 y), (1, .pointer (some ⟨βg, 0, none⟩)), (2, .pointer (some ⟨βf, 0, none⟩)), (6, .int .i64 fr), (7, .int .i64 (g.W - 1)), (21, .bool (decide (fr ≤ g.W - 1) && !leftI g a b ⟨fr, y⟩))]) (fun wr => Own w wr []) ?_ ?_)
    ·
      refine JL.pure rfl rfl ?_
      refine JL.pure rfl rfl ?_
      refine JL.pure rfl rfl ?_
      refine JL.pure rfl rfl ?_
      refine JL.cases 14 rfl ?_ ?_
      · intro h14
        (try simp only [Bool.not_eq_true', Bool.not_eq_false', decide_eq_true_eq, decide_eq_false_iff_not] at h14)
        refine JL.want rfl rfl ?_
        refine JL.load rfl sh249 (hf.grow h4 H.below) rfl ?_
        refine JL.want rfl rfl ?_
        refine JL.pure rfl rfl ?_
        refine JL.want rfl rfl ?_
        refine JL.pure rfl rfl ?_
        refine JL.want rfl rfl ?_
        refine JL.build s62 rfl rfl ?_
        refine JL.want rfl rfl ?_
        refine JL.callvP H rfl fb167 rfl rfl (hc _ H.below fr hf0 (by omega)) ?_
        intro w2 H _
        refine JL.want rfl rfl ?_
        refine JL.pure rfl rfl ?_
        refine JL.pure rfl rfl ?_
        refine JL.nil ?_
        refine Ex.to ⟨rfl, rfl, rfl, rfl, rfl, ?_, trivial⟩ H
        show some (Value.bool _) = some (Value.bool _)
        simp [h14]
      · intro h14
        (try simp only [Bool.not_eq_true', Bool.not_eq_false', decide_eq_true_eq, decide_eq_false_iff_not] at h14)
        refine JL.pass rfl rfl rfl rfl ?_
        refine JL.pass rfl rfl rfl rfl ?_
        refine JL.pass rfl rfl rfl rfl ?_
        refine JL.pass rfl rfl rfl rfl ?_
        refine JL.pass rfl rfl rfl rfl ?_
        refine JL.pass rfl rfl rfl rfl ?_
        refine JL.pure rfl rfl ?_
        refine JL.nil ?_
        refine Ex.to ⟨rfl, rfl, rfl, rfl, rfl, ?_, trivial⟩ H
        show some (Value.bool _) = some (Value.bool _)
        simp [h14]
    · intro wc H
      ((repeat refine Ex.normal_block ?_); refine Ex.next ?_)
      ((repeat refine JC.seq ?_); refine JC.cond rfl ?_ ?_)
      · intro h21
        (try simp only [Bool.not_eq_true', Bool.not_eq_false', decide_eq_true_eq, decide_eq_false_iff_not] at h21)
        have h21 : fr ≤ g.W - 1 ∧ leftI g a b ⟨fr, y⟩ = false := by simpa using h21
        ((repeat refine JC.seq ?_); refine JC.skip ?_)
        ((repeat refine Ex.normal_block ?_); refine Ex.next ?_)
        ((repeat refine JC.seq ?_); refine JC.block ?_)
        ((repeat refine JC.seq ?_); refine JC.region ?_)
        refine JL.pure rfl rfl ?_
        refine JL.arith rfl (by unfold In64; omega) rfl ?_
        refine JL.pure rfl rfl ?_
        refine JL.nil ?_
        (repeat refine Ex.normal_block ?_)
        rw [if_pos h21] at hu
        refine Ex.again (f, fr + 1) ⟨rfl, rfl, rfl, rfl, rfl, trivial⟩ ⟨⟨by simp only; omega, by simp only; omega, by simp only; omega⟩, hu, H⟩ (by simp)
      · intro h21
        (try simp only [Bool.not_eq_true', Bool.not_eq_false', decide_eq_true_eq, decide_eq_false_iff_not] at h21)
        have h21 : ¬ (fr ≤ g.W - 1 ∧ leftI g a b ⟨fr, y⟩ = false) := fun h => by simp [h.1, h.2] at h21
        rw [if_neg h21] at hu
        ((repeat refine JC.seq ?_); refine JC.exit ?_)
        (repeat (first | refine Ex.exit_then ?_ | refine Ex.exit_miss (by decide) ?_))
        refine Ex.exit_hit ?_
        ((repeat refine Ex.normal_block ?_); refine Ex.next ?_)
        ((repeat refine JC.seq ?_); refine JC.block ?_)
        ((repeat refine JC.seq ?_); refine JC.loop (ι := Nat × Int) (fun x => [(0, .int .i64 y), (1, .pointer (some ⟨βg, 0, none⟩)), (2, .pointer (some ⟨βf, 0, none⟩)), (6, .int .i64 fr), (7, .int .i64 x.2)])
          (fun x wr => (fr - 1 ≤ x.2 ∧ x.2 ≤ g.W - 1 ∧ x.2 - fr + 1 < x.1) ∧ downTo (fun x => leftI g a b ⟨x, y⟩) fr x.1 x.2 = (halfRow g a b y).2 ∧ Own w wr [])
          (fun x => x.1) (g.W.toNat + 1, g.W - 1) ?_ ?_ ?_)
        · exact ⟨rfl, rfl, rfl, rfl, rfl, trivial⟩
        · exact ⟨⟨by simp only; omega, by simp only; omega, by simp only; omega⟩, by rw [hu]; rfl, H⟩
        · rintro ⟨f2, to⟩ wr ⟨⟨ht0, ht1, hft⟩, hd, H⟩
          simp only at ht0 ht1 hft hd H
          obtain ⟨f2, rfl⟩ : ∃ f', f2 = f' + 1 := by
            cases f2 with
            | zero => exfalso; omega
            | succ f' => exact ⟨f', rfl⟩
          unfold downTo at hd
          show JC _ _ _ _ [(0, .int .i64 y), (1, .pointer (some ⟨βg, 0, none⟩)), (2, .pointer (some ⟨βf, 0, none⟩)), (6, .int .i64 fr), (7, .int .i64 to)] _
          ((repeat refine JC.seq ?_); refine JC.regionTo ([(0, .int .i64 y), (1, .pointer (some ⟨βg, 0, none⟩)), (2, .pointer (some ⟨βf, 0, none⟩)), (6, .int .i64 fr), (7, .int .i64 to), (34, .bool (decide (fr ≤ to) && !leftI g a b ⟨to, y⟩))]) (fun wr => Own w wr []) ?_ ?_)
          ·
            refine JL.pure rfl rfl ?_
            refine JL.pure rfl rfl ?_
            refine JL.pure rfl rfl ?_
            refine JL.pure rfl rfl ?_
            refine JL.cases 27 rfl ?_ ?_
            · intro h27
              (try simp only [Bool.not_eq_true', Bool.not_eq_false', decide_eq_true_eq, decide_eq_false_iff_not] at h27)
              refine JL.want rfl rfl ?_
              refine JL.load rfl sh249 (hf.grow h4 H.below) rfl ?_
              refine JL.want rfl rfl ?_
              refine JL.pure rfl rfl ?_
              refine JL.want rfl rfl ?_
              refine JL.pure rfl rfl ?_
              refine JL.want rfl rfl ?_
              refine JL.build s62 rfl rfl ?_
              refine JL.want rfl rfl ?_
              refine JL.callvP H rfl fb167 rfl rfl (hc _ H.below to (by omega) (by omega)) ?_
              intro w3 H _
              refine JL.want rfl rfl ?_
              refine JL.pure rfl rfl ?_
              refine JL.pure rfl rfl ?_
              refine JL.nil ?_
              refine Ex.to ⟨rfl, rfl, rfl, rfl, rfl, ?_, trivial⟩ H
              show some (Value.bool _) = some (Value.bool _)
              simp [h27]
            · intro h27
              (try simp only [Bool.not_eq_true', Bool.not_eq_false', decide_eq_true_eq, decide_eq_false_iff_not] at h27)
              refine JL.pass rfl rfl rfl rfl ?_
              refine JL.pass rfl rfl rfl rfl ?_
              refine JL.pass rfl rfl rfl rfl ?_
              refine JL.pass rfl rfl rfl rfl ?_
              refine JL.pass rfl rfl rfl rfl ?_
              refine JL.pass rfl rfl rfl rfl ?_
              refine JL.pure rfl rfl ?_
              refine JL.nil ?_
              refine Ex.to ⟨rfl, rfl, rfl, rfl, rfl, ?_, trivial⟩ H
              show some (Value.bool _) = some (Value.bool _)
              simp [h27]
          · intro wc H
            ((repeat refine Ex.normal_block ?_); refine Ex.next ?_)
            ((repeat refine JC.seq ?_); refine JC.cond rfl ?_ ?_)
            · intro h34
              (try simp only [Bool.not_eq_true', Bool.not_eq_false', decide_eq_true_eq, decide_eq_false_iff_not] at h34)
              have h34 : fr ≤ to ∧ leftI g a b ⟨to, y⟩ = false := by simpa using h34
              ((repeat refine JC.seq ?_); refine JC.skip ?_)
              ((repeat refine Ex.normal_block ?_); refine Ex.next ?_)
              ((repeat refine JC.seq ?_); refine JC.block ?_)
              ((repeat refine JC.seq ?_); refine JC.region ?_)
              refine JL.pure rfl rfl ?_
              refine JL.arith rfl (by unfold In64; omega) rfl ?_
              refine JL.pure rfl rfl ?_
              refine JL.nil ?_
              (repeat refine Ex.normal_block ?_)
              rw [if_pos h34] at hd
              refine Ex.again (f2, to - 1) ⟨rfl, rfl, rfl, rfl, rfl, trivial⟩ ⟨⟨by simp only; omega, by simp only; omega, by simp only; omega⟩, hd, H⟩ (by simp)
            · intro h34
              (try simp only [Bool.not_eq_true', Bool.not_eq_false', decide_eq_true_eq, decide_eq_false_iff_not] at h34)
              have h34 : ¬ (fr ≤ to ∧ leftI g a b ⟨to, y⟩ = false) := fun h => by simp [h.1, h.2] at h34
              rw [if_neg h34] at hd
              ((repeat refine JC.seq ?_); refine JC.exit ?_)
              (repeat (first | refine Ex.exit_then ?_ | refine Ex.exit_miss (by decide) ?_))
              refine Ex.exit_hit ?_
              ((repeat refine Ex.normal_block ?_); refine Ex.next ?_)
              ((repeat refine JC.seq ?_); refine JC.region ?_)
              refine JL.pure rfl rfl ?_
              refine JL.pure rfl rfl ?_
              refine JL.pure rfl rfl ?_
              refine JL.pure rfl rfl ?_
              refine JL.nil ?_
              ((repeat refine Ex.normal_block ?_); refine Ex.next ?_)
              ((repeat refine JC.seq ?_); refine JC.ret ?_)
              (repeat (first | refine Ex.ret_then ?_ | refine Ex.ret_block ?_))
              refine Ex.ret2 rfl (.tmp rfl) (.tmp rfl) ⟨?_, H.below⟩
              rw [← hd, show (halfRow g a b y).1 = fr from hu.symm]
theorem halfRow_bd {g : Grid} {a b : Spot} {y : Int} (hW : 1 ≤ g.W ∧ g.W ≤ 256) : -1000000000000 ≤ (halfRow g a b y).2 ∧ (halfRow g a b y).2 ≤ 1000000000000 := by
  have hu := upTo_ok (fun x => leftI g a b ⟨x, y⟩) (g.W - 1) (g.W.toNat + 1) 0 (by omega)
  have hd := downTo_ok (fun x => leftI g a b ⟨x, y⟩) (halfFrom g a b y) (g.W.toNat + 1) (g.W - 1) (by unfold halfFrom; omega)
  unfold halfRow
  unfold halfFrom at *
  simp only
  omega
theorem half_c (g : Grid) (lv : Value) (a b : Spot) (w : World) (hl : SlR w lv g.land) : Calls Try.prog 78 #[g.ev lv, a.ev, b.ev] w (fun e w' => ResR w w' [] (halfR g a b) e) := by
  refine calls_J (args := [g.ev lv, a.ev, b.ev]) Try.func78 rfl Try.ntmps78 rfl ?_
  have H := Own.start w
  ((repeat refine JC.seq ?_); refine JC.region ?_)
  refine JL.box H rfl rfl rfl ?_
  intro b3 w1 H
  refine JL.box H rfl rfl rfl ?_
  intro b4 w2 H
  refine JL.box H rfl rfl rfl ?_
  intro b5 w3 H
  refine JL.pure rfl rfl ?_
  refine JL.pure rfl rfl ?_
  refine JL.nil ?_
  ((repeat refine Ex.normal_block ?_); refine Ex.next ?_)
  ((repeat refine JC.seq ?_); refine JC.region ?_)
  refine JL.loadB 2 H rfl sh52 rfl rfl rfl ?_
  refine JL.callP H fb141 rfl rfl (checkGrid_c g lv _ (hl.grow H.below)) ?_
  intro w4 H _
  refine JL.pure rfl rfl ?_
  refine JL.pure rfl rfl ?_
  refine JL.cases 12 rfl ?_ ?_
  · intro h12
    (try simp only [Bool.not_eq_true', Bool.not_eq_false', decide_eq_true_eq, decide_eq_false_iff_not] at h12)
    have hok : g.ok = false := by
      cases hc : g.ok with
      | false => rfl
      | true => exfalso; rw [hc] at h12; simp at h12
    refine JL.pass rfl rfl rfl rfl ?_
    refine JL.pass rfl rfl rfl rfl ?_
    refine JL.pass rfl rfl rfl rfl ?_
    refine JL.pass rfl rfl rfl rfl ?_
    refine JL.pass rfl rfl rfl rfl ?_
    refine JL.pure rfl rfl ?_
    refine JL.pure rfl rfl ?_
    refine JL.pass rfl rfl rfl rfl ?_
    refine JL.pass rfl rfl rfl rfl ?_
    refine JL.pass rfl rfl rfl rfl ?_
    refine JL.pure rfl rfl ?_
    refine JL.nil ?_
    ((repeat refine Ex.normal_block ?_); refine Ex.next ?_)
    ((repeat refine JC.seq ?_); refine JC.cond rfl (fun _ => ?_) (fun h => by cases h))
    ((repeat refine JC.seq ?_); refine JC.region ?_)
    refine JL.pure rfl rfl ?_
    refine JL.pure rfl rfl ?_
    refine JL.nil ?_
    ((repeat refine Ex.normal_block ?_); refine Ex.next ?_)
    ((repeat refine JC.seq ?_); refine JC.ret ?_)
    (repeat (first | refine Ex.ret_then ?_ | refine Ex.ret_block ?_))
    refine Ex.ret2 rfl (.tmp rfl) (.tmp rfl) ?_
    unfold halfR ResR; rw [hok]
    exact ⟨_, rfl, (((H.drop 0).drop 0).drop 0).nilRow 140 3⟩
  · intro h12
    (try simp only [Bool.not_eq_true', Bool.not_eq_false', decide_eq_true_eq, decide_eq_false_iff_not] at h12)
    have hok : g.ok = true := by
      cases hc : g.ok with
      | true => rfl
      | false => exfalso; rw [hc] at h12; simp at h12
    obtain ⟨hgW, hgH, hgS, hgl⟩ := Grid.ok_b hok
    refine JL.want rfl rfl ?_
    refine JL.loadB 1 H rfl sh23 rfl rfl rfl ?_
    refine JL.want rfl rfl ?_
    refine JL.loadB 0 H rfl sh23 rfl rfl rfl ?_
    refine JL.want rfl rfl ?_
    refine JL.buildSlice H Try.underlying27 sh23 z23 rfl rfl rfl rfl rfl ?_
    intro b15 w5 H
    refine JL.want rfl rfl ?_
    refine JL.callP H fb142 rfl rfl (near_c _ [a, b] _ (H.blkSl (j := 0) (enc := fun s : Spot => [.int .i64 s.X, .int .i64 s.Y]) rfl [a, b] rfl (fun _ => rfl) (by simp))) ?_
    intro w6 H _
    refine JL.want rfl rfl ?_
    refine JL.pure rfl rfl ?_
    refine JL.pure rfl rfl ?_
    refine JL.pure rfl rfl ?_
    refine JL.cases 19 rfl ?_ ?_
    · intro h19
      (try simp only [Bool.not_eq_true', Bool.not_eq_false', decide_eq_true_eq, decide_eq_false_iff_not] at h19)
      
      refine JL.pass rfl rfl rfl rfl ?_
      refine JL.pass rfl rfl rfl rfl ?_
      refine JL.pass rfl rfl rfl rfl ?_
      refine JL.pure rfl rfl ?_
      refine JL.nil ?_
      ((repeat refine Ex.normal_block ?_); refine Ex.next ?_)
      ((repeat refine JC.seq ?_); refine JC.cond rfl (fun _ => ?_) (fun h => by cases h))
      ((repeat refine JC.seq ?_); refine JC.region ?_)
      refine JL.pure rfl rfl ?_
      refine JL.pure rfl rfl ?_
      refine JL.nil ?_
      ((repeat refine Ex.normal_block ?_); refine Ex.next ?_)
      ((repeat refine JC.seq ?_); refine JC.ret ?_)
      (repeat (first | refine Ex.ret_then ?_ | refine Ex.ret_block ?_))
      refine Ex.ret2 rfl (.tmp rfl) (.tmp rfl) ?_
      have hs : (a.ok && b.ok) = false := by simpa using h19
      unfold halfR ResR; rw [hok, Bool.true_and, hs]
      exact ⟨_, rfl, ((((H.drop 0).drop 0).drop 0).drop 0).nilRow 140 3⟩
    · intro h19
      (try simp only [Bool.not_eq_true', Bool.not_eq_false', decide_eq_true_eq, decide_eq_false_iff_not] at h19)
      have hab : a.ok = true ∧ b.ok = true := by simpa using h19
      refine JL.want rfl rfl ?_
      refine JL.loadB 2 H rfl sh23 rfl rfl rfl ?_
      refine JL.want rfl rfl ?_
      refine JL.loadB 1 H rfl sh23 rfl rfl rfl ?_
      refine JL.want rfl rfl ?_
      refine JL.eqs rfl rfl (eqTwo (by decide) _ _ _ _).1 rfl ?_
      refine JL.pure rfl rfl ?_
      refine JL.nil ?_
      ((repeat refine Ex.normal_block ?_); refine Ex.next ?_)
      ((repeat refine JC.seq ?_); refine JC.cond rfl ?_ ?_)
      · intro h23
        (try simp only [Bool.not_eq_true', Bool.not_eq_false', decide_eq_true_eq, decide_eq_false_iff_not] at h23)
        have hne : a = b := by cases a; cases b; simpa using h23
        ((repeat refine JC.seq ?_); refine JC.region ?_)
        refine JL.pure rfl rfl ?_
        refine JL.pure rfl rfl ?_
        refine JL.nil ?_
        ((repeat refine Ex.normal_block ?_); refine Ex.next ?_)
        ((repeat refine JC.seq ?_); refine JC.ret ?_)
        (repeat (first | refine Ex.ret_then ?_ | refine Ex.ret_block ?_))
        refine Ex.ret2 rfl (.tmp rfl) (.tmp rfl) ?_
        unfold halfR ResR; rw [hok, hab.1, hab.2, decide_eq_false (fun h => h hne)]
        exact ⟨_, rfl, ((((H.drop 0).drop 0).drop 0).drop 0).nilRow 140 3⟩
      · intro h23
        (try simp only [Bool.not_eq_true', Bool.not_eq_false', decide_eq_true_eq, decide_eq_false_iff_not] at h23)
        have hne : a ≠ b := by rintro rfl; simp at h23
        ((repeat refine JC.seq ?_); refine JC.skip ?_)
        ((repeat refine Ex.normal_block ?_); refine Ex.next ?_)
        ((repeat refine JC.seq ?_); refine JC.region ?_)
        refine JL.pure rfl rfl ?_
        refine JL.alloc H z249 rfl ?_
        intro b8 w7 H
        refine JL.storeB 0 H rfl rfl sh249 rfl rfl rfl rfl rfl ?_
        intro w8 H
        refine JL.nil ?_
        ((repeat refine Ex.normal_block ?_); refine Ex.next ?_)
        ((repeat refine JC.seq ?_); refine JC.region ?_)
        refine JL.loadB 4 H rfl sh52 rfl rfl rfl ?_
        refine JL.pure rfl rfl ?_
        have hg1 := H.get (i := 4) rfl
        have hg2 := H.get (i := 3) rfl
        have hg3 := H.get (i := 2) rfl
        have hg4 := H.get (i := 0) rfl
        have l1 := lt_of_block hg1.2
        have l2 := lt_of_block hg2.2
        have l3 := lt_of_block hg3.2
        have l4 := lt_of_block hg4.2
        refine JL.call fb163 rfl rfl (filled_c g lv 168 [.pointer (some ⟨b3, 0, none⟩), .pointer (some ⟨b8, 0, none⟩)] (halfRow g a b) _ hgW hgH fb168 (fun w' hb' y hy0 hy1 => ⟨half2_c g lv a b y b5 b4 b3 b8 w' (Nat.lt_of_lt_of_le l3 hb'.size) (Nat.lt_of_lt_of_le l2 hb'.size) (Nat.lt_of_lt_of_le l1 hb'.size) (Nat.lt_of_lt_of_le l4 hb'.size) ((LdAt.of_block hg3.2 rfl).grow l3 hb') ((LdAt.of_block hg2.2 rfl).grow l2 hb') ((LdAt.of_block hg1.2 rfl).grow l1 hb') ((LdAt.of_block hg4.2 rfl).grow l4 hb') hgW hgS hab.1 hab.2 ⟨hy0, by omega⟩, halfRow_bd hgW⟩)) ?_
        rintro _ w9 ⟨rv, rfl, K⟩
        have H := H.join K
        refine ⟨_, rfl, ?_⟩
        refine JL.pure rfl rfl ?_
        refine JL.pure rfl rfl ?_
        refine JL.pure rfl rfl ?_
        refine JL.pure rfl rfl ?_
        refine JL.nil ?_
        ((repeat refine Ex.normal_block ?_); refine Ex.next ?_)
        ((repeat refine JC.seq ?_); refine JC.ret ?_)
        (repeat (first | refine Ex.ret_then ?_ | refine Ex.ret_block ?_))
        refine Ex.ret2 rfl (.tmp rfl) (.tmp rfl) ?_
        unfold halfR; rw [hok, hab.1, hab.2]
        simp only [Bool.and_self, Bool.true_and, decide_eq_true hne, if_true]
        exact ⟨_, rfl, (((((H.drop 1).drop 1).drop 1).drop 1).drop 1)⟩
end Go.J

namespace Go.J
open Go.RowKit Go.Proofs
set_option maxRecDepth 8000
set_option linter.unusedSimpArgs false
set_option linter.unusedVariables false
theorem cellOf_ok {g : Grid} {s : Spot} {c : Cell} (h : cellOfR g s = (c, 0)) : g.ok = true ∧ s.ok = true ∧ inG g c ∧ c = ⟨s.X / g.S, s.Y / g.S⟩ := by
  unfold cellOfR at h
  split at h
  · cases h
  · rename_i h1
    split at h
    · rename_i h2
      have h3 : g.ok = true ∧ s.ok = true := by simpa using h1
      cases h
      refine ⟨h3.1, h3.2, ?_, rfl⟩
      unfold inG; simp only; omega
    · cases h
theorem discR_ok {g : Grid} {s : Spot} {r : Int} (h : (discR g s r).2 = 0) : g.ok = true ∧ s.ok = true ∧ 0 ≤ r ∧ r ≤ 16777216 := by
  unfold discR at h
  split at h
  · rename_i hc
    simp only [Bool.and_eq_true, decide_eq_true_eq] at hc
    exact ⟨hc.1.1, hc.1.2, hc.2⟩
  · cases h
theorem halfR_ok {g : Grid} {a b : Spot} (h : (halfR g a b).2 = 0) : g.ok = true ∧ a.ok = true ∧ b.ok = true ∧ a ≠ b := by
  unfold halfR at h
  split at h
  · rename_i hc
    simp only [Bool.and_eq_true, decide_eq_true_eq] at hc
    exact ⟨hc.1.1.1, hc.1.1.2, hc.1.2, hc.2⟩
  · cases h
theorem discR_len (g : Grid) (s : Spot) (r : Int) : (discR g s r).1.length ≤ 8192 := by
  unfold discR; split
  · exact regRes_len _
  · simp
theorem halfR_len (g : Grid) (a b : Spot) : (halfR g a b).1.length ≤ 8192 := by
  unfold halfR; split
  · exact regRes_len _
  · simp
theorem w64_sq {x y : Int} (hx : -100000000 ≤ x ∧ x ≤ 100000000) (hy : -100000000 ≤ y ∧ y ≤ 100000000) : w64 (w64 (x * x) + w64 (y * y)) = x * x + y * y := by
  have h1 := mul_bd2 hx.1 hx.2 hx.1 hx.2
  have h2 := mul_bd2 hy.1 hy.2 hy.1 hy.2
  rw [w64_id (n := x * x) (by unfold In64; omega), w64_id (n := y * y) (by unfold In64; omega), w64_id (by unfold In64; omega)]
theorem w64_s {x : Int} (hx : -100000000 ≤ x ∧ x ≤ 100000000) : w64 (x * x) = x * x := by
  have h1 := mul_bd2 hx.1 hx.2 hx.1 hx.2
  exact w64_id (by unfold In64; omega)
/-- the differences of a place and a spot, as the walk spells them -/
theorem w64_d {x a : Int} (hx : -16777216 ≤ x ∧ x ≤ 16777216) (ha : -16777216 ≤ a ∧ a ≤ 16777216) : w64 (x - a) = x - a := w64_id (by unfold In64; omega)
theorem w64_aw {c S a : Int} (hm : 0 ≤ c * S ∧ c * S ≤ 12800000) (hS : 1 ≤ S ∧ S ≤ 50000) (ha : -16777216 ≤ a ∧ a ≤ 16777216) :
    max (max 0 (w64 (c * S - a))) (w64 (w64 (w64 (a - c * S) - S) + 1)) = awayI S a c := by
  rw [w64_id (n := c * S - a) (by unfold In64; omega), w64_id (n := a - c * S) (by unfold In64; omega), w64_id (n := a - c * S - S) (by unfold In64; omega), w64_id (n := a - c * S - S + 1) (by unfold In64; omega)]
  rfl
theorem away_bd {c S a : Int} (hm : 0 ≤ c * S ∧ c * S ≤ 12800000) (hS : 1 ≤ S ∧ S ≤ 50000) (ha : -16777216 ≤ a ∧ a ≤ 16777216) : -100000000 ≤ awayI S a c ∧ awayI S a c ≤ 100000000 := by unfold awayI; omega
theorem neqBool (t : TypeId) (ht : Try.prog.underlying t = some .bool) (a b : Bool) : EqAt2 Try.prog .neq t (.bool a) (.bool b) (.bool (a != b)) :=
  ⟨fun x y w => by simp [eqGuard], fun w => by simp [binOp, Op.equal, Op.maxDepth, show (10000 : Nat) = 9999 + 1 from rfl, run_equalIn_bool w 9999 t a b ht, bne]⟩
theorem gridReaches_w (g : Grid) (lv : Value) (a b s : Spot) (radius : Int) (w : World) (hl : SlR w lv g.land) :
    Pur Try.prog 13 #[g.ev lv, a.ev, b.ev, s.ev, .int .i64 radius] w (.bool true) := by
  refine pur_J (args := [g.ev lv, a.ev, b.ev, s.ev, .int .i64 radius]) Try.func13 rfl Try.ntmps13 rfl ?_
  have H := Own.start w
  ((repeat refine JC.seq ?_); refine JC.region ?_)
  refine JL.box H rfl rfl rfl ?_
  intro b5 w1 H
  refine JL.box H rfl rfl rfl ?_
  intro b6 w2 H
  refine JL.box H rfl rfl rfl ?_
  intro b7 w3 H
  refine JL.box H rfl rfl rfl ?_
  intro b8 w4 H
  refine JL.pure rfl rfl ?_
  refine JL.nil ?_
  ((repeat refine Ex.normal_block ?_); refine Ex.next ?_)
  ((repeat refine JC.seq ?_); refine JC.region ?_)
  refine JL.callP H fb40 rfl rfl (alive_c _) ?_
  intro w5 H _
  refine JL.pure rfl rfl ?_
  refine JL.nil ?_
  ((repeat refine Ex.normal_block ?_); refine Ex.next ?_)
  ((repeat refine JC.seq ?_); refine JC.region ?_)
  refine JL.loadB 3 H rfl sh52 rfl rfl rfl ?_
  refine JL.callP H fb41 rfl rfl (great_c g lv _ 4096 [] _ (hl.grow H.below) (nilSl _) (by simp)) ?_
  intro w6 H _
  refine JL.pure rfl rfl ?_
  refine JL.cases 26 rfl ?_ ?_
  · intro h26
    (try simp only [Bool.not_eq_true', Bool.not_eq_false', decide_eq_true_eq, decide_eq_false_iff_not] at h26)
    refine JL.pass rfl rfl rfl rfl ?_
    refine JL.pass rfl rfl rfl rfl ?_
    refine JL.pure rfl rfl ?_
    refine JL.nil ?_
    ((repeat refine Ex.normal_block ?_); refine Ex.next ?_)
    ((repeat refine JC.seq ?_); refine JC.cond rfl (fun _ => ?_) (fun h => by cases h))
    ((repeat refine JC.seq ?_); refine JC.region ?_)
    refine JL.pure rfl rfl ?_
    refine JL.pure rfl rfl ?_
    refine JL.nil ?_
    ((repeat refine Ex.normal_block ?_); refine Ex.next ?_)
    ((repeat refine JC.seq ?_); refine JC.ret ?_)
    (repeat (first | refine Ex.ret_then ?_ | refine Ex.ret_block ?_))
    refine Ex.ret1 rfl (.tmp rfl) ⟨?_, H.below⟩
    rfl
  · intro h26
    (try simp only [Bool.not_eq_true', Bool.not_eq_false', decide_eq_true_eq, decide_eq_false_iff_not] at h26)
    refine JL.want rfl rfl ?_
    refine JL.pure rfl rfl ?_
    refine JL.want rfl rfl ?_
    refine JL.pure rfl rfl ?_
    refine JL.pure rfl rfl ?_
    refine JL.nil ?_
    ((repeat refine Ex.normal_block ?_); refine Ex.next ?_)
    ((repeat refine JC.seq ?_); refine JC.cond rfl (fun h => by cases h) (fun _ => ?_))
    ((repeat refine JC.seq ?_); refine JC.skip ?_)
    ((repeat refine Ex.normal_block ?_); refine Ex.next ?_)
    ((repeat refine JC.seq ?_); refine JC.region ?_)
    refine JL.loadB 3 H rfl sh52 rfl rfl rfl ?_
    refine JL.loadB 0 H rfl sh23 rfl rfl rfl ?_
    refine JL.callP H fb52 rfl rfl (cellOf_c g lv s _ (hl.grow H.below)) ?_
    intro w7 H _
    obtain ⟨c, hc1⟩ : ∃ c, c = (cellOfR g s).1 := ⟨_, rfl⟩
    obtain ⟨ec, hc2⟩ : ∃ ec, ec = (cellOfR g s).2 := ⟨_, rfl⟩
    rw [← hc1, ← hc2]
    have hce : cellOfR g s = (c, ec) := by rw [hc1, hc2]
    refine JL.pure rfl rfl ?_
    refine JL.pure rfl rfl ?_
    refine JL.pure rfl rfl ?_
    refine JL.alloc H z62 rfl ?_
    intro b12 w8 H
    refine JL.storeB 0 H rfl rfl sh62 rfl rfl rfl rfl rfl ?_
    intro w9 H
    refine JL.pure rfl rfl ?_
    refine JL.nil ?_
    ((repeat refine Ex.normal_block ?_); refine Ex.next ?_)
    ((repeat refine JC.seq ?_); refine JC.region ?_)
    refine JL.loadB 4 H rfl sh52 rfl rfl rfl ?_
    refine JL.loadB 3 H rfl sh23 rfl rfl rfl ?_
    refine JL.pure rfl rfl ?_
    refine JL.call fb77 rfl rfl (disc_c g lv a radius _ (hl.grow H.below)) ?_
    rintro _ w10 ⟨dv, rfl, K⟩
    have H := H.join K
    refine ⟨_, rfl, ?_⟩
    refine JL.pure rfl rfl ?_
    refine JL.pure rfl rfl ?_
    refine JL.pure rfl rfl ?_
    refine JL.pure rfl rfl ?_
    refine JL.pure rfl rfl ?_
    refine JL.nil ?_
    ((repeat refine Ex.normal_block ?_); refine Ex.next ?_)
    ((repeat refine JC.seq ?_); refine JC.region ?_)
    refine JL.loadB 5 H rfl sh52 rfl rfl rfl ?_
    refine JL.loadB 4 H rfl sh23 rfl rfl rfl ?_
    refine JL.loadB 3 H rfl sh23 rfl rfl rfl ?_
    refine JL.call fb78 rfl rfl (half_c g lv a b _ (hl.grow H.below)) ?_
    rintro _ w11 ⟨hv, rfl, K⟩
    have H := H.join K
    refine ⟨_, rfl, ?_⟩
    refine JL.pure rfl rfl ?_
    refine JL.pure rfl rfl ?_
    refine JL.pure rfl rfl ?_
    refine JL.pure rfl rfl ?_
    refine JL.pure rfl rfl ?_
    refine JL.nil ?_
    ((repeat refine Ex.normal_block ?_); refine Ex.next ?_)
    ((repeat refine JC.seq ?_); refine JC.region ?_)
    refine JL.pure rfl rfl ?_
    refine JL.pure rfl rfl ?_
    refine JL.nil ?_
    ((repeat refine Ex.normal_block ?_); refine Ex.next ?_)
    ((repeat refine JC.seq ?_); refine JC.cond rfl ?_ ?_)
    · intro h52
      (try simp only [Bool.not_eq_true', Bool.not_eq_false', decide_eq_true_eq, decide_eq_false_iff_not] at h52)
      
      ((repeat refine JC.seq ?_); refine JC.region ?_)
      refine JL.pure rfl rfl ?_
      refine JL.pure rfl rfl ?_
      refine JL.nil ?_
      ((repeat refine Ex.normal_block ?_); refine Ex.next ?_)
      ((repeat refine JC.seq ?_); refine JC.ret ?_)
      (repeat (first | refine Ex.ret_then ?_ | refine Ex.ret_block ?_))
      refine Ex.ret1 rfl (.tmp rfl) ⟨?_, H.below⟩
      rfl
    · intro h52
      (try simp only [Bool.not_eq_true', Bool.not_eq_false', decide_eq_true_eq, decide_eq_false_iff_not] at h52)
      have h52 : ec = 0 := by simpa using h52
      subst h52
      obtain ⟨hgok, hsok, hin, hcc⟩ := cellOf_ok hce
      obtain ⟨hgW, hgH, hgS, hgl⟩ := Grid.ok_b hgok
      have hsb := Spot.ok_b hsok
      unfold inG at hin
      have m1 := mul_bd (M := 0) hin.1.1 (show c.X ≤ 256 by omega) (show 0 ≤ g.S by omega) hgS.2
      have m2 := mul_bd (M := 0) hin.2.1 (show c.Y ≤ 256 by omega) (show 0 ≤ g.S by omega) hgS.2
      ((repeat refine JC.seq ?_); refine JC.skip ?_)
      ((repeat refine Ex.normal_block ?_); refine Ex.next ?_)
      ((repeat refine JC.seq ?_); refine JC.draw 12 H mixed (by kernel_rfl) rfl ?_)
      refine JD.fieldAddr rfl Try.underlying23 rfl sh3 rfl ?_
      refine JD.loadB 3 rfl sh3 rfl rfl rfl ?_
      refine JD.fieldAddr rfl Try.underlying23 rfl sh3 rfl ?_
      refine JD.loadB 5 rfl sh3 rfl rfl rfl ?_
      refine JD.pure rfl rfl ?_
      refine JD.fieldAddr rfl Try.underlying23 rfl sh3 rfl ?_
      refine JD.loadB 3 rfl sh3 rfl rfl rfl ?_
      refine JD.fieldAddr rfl Try.underlying23 rfl sh3 rfl ?_
      refine JD.loadB 5 rfl sh3 rfl rfl rfl ?_
      refine JD.pure rfl rfl ?_
      refine JD.pure rfl rfl ?_
      refine JD.pure rfl rfl ?_
      refine JD.nil ?_
      intro w12 H
      show JL _ _ _ _ _ _ _
      refine JL.nil ?_
      ((repeat refine Ex.normal_block ?_); refine Ex.next ?_)
      ((repeat refine JC.seq ?_); refine JC.draw 44 H mixed (by kernel_rfl) rfl ?_)
      refine JD.fieldAddr rfl Try.underlying62 rfl sh3 rfl ?_
      refine JD.loadB 2 rfl sh3 rfl rfl rfl ?_
      refine JD.fieldAddr rfl Try.underlying52 rfl sh3 rfl ?_
      refine JD.loadB 6 rfl sh3 rfl rfl rfl ?_
      refine JD.arith rfl (by unfold In64; omega) rfl ?_
      refine JD.fieldAddr rfl Try.underlying23 rfl sh3 rfl ?_
      refine JD.loadB 5 rfl sh3 rfl rfl rfl ?_
      refine JD.pure rfl rfl ?_
      refine JD.fieldAddr rfl Try.underlying23 rfl sh3 rfl ?_
      refine JD.loadB 5 rfl sh3 rfl rfl rfl ?_
      refine JD.fieldAddr rfl Try.underlying62 rfl sh3 rfl ?_
      refine JD.loadB 2 rfl sh3 rfl rfl rfl ?_
      refine JD.fieldAddr rfl Try.underlying52 rfl sh3 rfl ?_
      refine JD.loadB 6 rfl sh3 rfl rfl rfl ?_
      refine JD.arith rfl (by unfold In64; omega) rfl ?_
      refine JD.pure rfl rfl ?_
      refine JD.fieldAddr rfl Try.underlying52 rfl sh3 rfl ?_
      refine JD.loadB 6 rfl sh3 rfl rfl rfl ?_
      refine JD.pure rfl rfl ?_
      refine JD.pure rfl rfl ?_
      refine JD.pure rfl rfl ?_
      refine JD.fieldAddr rfl Try.underlying62 rfl sh3 rfl ?_
      refine JD.loadB 2 rfl sh3 rfl rfl rfl ?_
      refine JD.fieldAddr rfl Try.underlying52 rfl sh3 rfl ?_
      refine JD.loadB 6 rfl sh3 rfl rfl rfl ?_
      refine JD.arith rfl (by unfold In64; omega) rfl ?_
      refine JD.fieldAddr rfl Try.underlying23 rfl sh3 rfl ?_
      refine JD.loadB 5 rfl sh3 rfl rfl rfl ?_
      refine JD.pure rfl rfl ?_
      refine JD.fieldAddr rfl Try.underlying23 rfl sh3 rfl ?_
      refine JD.loadB 5 rfl sh3 rfl rfl rfl ?_
      refine JD.fieldAddr rfl Try.underlying62 rfl sh3 rfl ?_
      refine JD.loadB 2 rfl sh3 rfl rfl rfl ?_
      refine JD.fieldAddr rfl Try.underlying52 rfl sh3 rfl ?_
      refine JD.loadB 6 rfl sh3 rfl rfl rfl ?_
      refine JD.arith rfl (by unfold In64; omega) rfl ?_
      refine JD.pure rfl rfl ?_
      refine JD.fieldAddr rfl Try.underlying52 rfl sh3 rfl ?_
      refine JD.loadB 6 rfl sh3 rfl rfl rfl ?_
      refine JD.pure rfl rfl ?_
      refine JD.pure rfl rfl ?_
      refine JD.pure rfl rfl ?_
      refine JD.pure rfl rfl ?_
      refine JD.pure rfl rfl ?_
      refine JD.nil ?_
      intro w13 H
      show JL _ _ _ _ _ _ _
      refine JL.nil ?_
      ((repeat refine Ex.normal_block ?_); refine Ex.next ?_)
      ((repeat refine JC.seq ?_); refine JC.regionTo ([(6, .pointer (some ⟨b6, 0, none⟩)), (7, .pointer (some ⟨b7, 0, none⟩)), (11, .bool true), (12, .pointer (some ⟨b12, 0, none⟩)), (16, hv), (17, .int .i64 (halfR g a b).2), (18, .int .i64 (w64 (s.X - a.X))), (19, .int .i64 (w64 (s.Y - a.Y))), (143, .bool false)]) (fun wr => Own w wr [runRow hv (halfR g a b).1, runRow dv (discR g a radius).1, blk b12 (.cells ⟨[.int .i64 c.X, .int .i64 c.Y]⟩ 62 (0, 0)), blk b8 (.cells ⟨[.int .i64 s.X, .int .i64 s.Y]⟩ 23 (0, 0)), blk b7 (.cells ⟨[.int .i64 b.X, .int .i64 b.Y]⟩ 23 (0, 0)), blk b6 (.cells ⟨[.int .i64 a.X, .int .i64 a.Y]⟩ 23 (0, 0)), blk b5 (.cells ⟨[.int .i64 g.W, .int .i64 g.H, .int .i64 g.S, lv]⟩ 52 (0, 0))]) ?_ ?_)
      ·
        refine JL.pure rfl rfl ?_
        refine JL.pure rfl rfl ?_
        refine JL.pure rfl rfl ?_
        refine JL.cases 108 rfl ?_ ?_
        · intro h108
          (try simp only [Bool.not_eq_true', Bool.not_eq_false', decide_eq_true_eq, decide_eq_false_iff_not] at h108)
          have hf0 : (discR g a radius).2 = 0 := by simpa using h108
          obtain ⟨_, haok, hra⟩ := discR_ok hf0
          have hab := Spot.ok_b haok
          obtain ⟨rd1, rd2⟩ := reach_disc (g := g) (s := s) (a := a) (radius := radius) (by rw [hce]) hf0
          rw [hce] at rd1 rd2
          simp only at rd1 rd2
          refine JL.want rfl rfl ?_
          refine JL.pure rfl rfl ?_
          refine JL.want rfl rfl ?_
          refine JL.pure rfl rfl ?_
          refine JL.want rfl rfl ?_
          refine JL.pure rfl rfl ?_
          refine JL.want rfl rfl ?_
          refine JL.pure rfl rfl ?_
          refine JL.want rfl rfl ?_
          refine JL.pure rfl rfl ?_
          refine JL.want rfl rfl ?_
          refine JL.pure rfl rfl ?_
          refine JL.want rfl rfl ?_
          refine JL.pure rfl rfl ?_
          refine JL.want rfl rfl ?_
          refine JL.pure rfl rfl ?_
          refine JL.want rfl rfl ?_
          refine JL.pure rfl rfl ?_
          refine JL.want rfl rfl ?_
          refine JL.pure rfl rfl ?_
          refine JL.want rfl rfl ?_
          refine JL.pure rfl rfl ?_
          refine JL.re 119 rfl (v' := .bool (decide ((s.X - a.X) * (s.X - a.X) + (s.Y - a.Y) * (s.Y - a.Y) ≤ radius * radius))) (by rw [w64_d hsb.1 hab.1, w64_d hsb.2 hab.2, w64_sq (by omega) (by omega), w64_s (by omega)]) ?_
          refine JL.want rfl rfl ?_
          refine JL.pure rfl rfl ?_
          refine JL.cases 120 rfl ?_ ?_
          · intro h120
            (try simp only [Bool.not_eq_true', Bool.not_eq_false', decide_eq_true_eq, decide_eq_false_iff_not] at h120)
            refine JL.want rfl rfl ?_
            refine JL.pure rfl rfl ?_
            refine JL.want rfl rfl ?_
            refine JL.loadB 2 H rfl sh62 rfl rfl rfl ?_
            refine JL.want rfl rfl ?_
            refine JL.callP H fb48 rfl rfl (has_c _ (discR g a radius).1 c _ (runSl H (j := 1) rfl (by have := discR_len g a radius; omega))) ?_
            intro w14 H _
            refine JL.want rfl rfl ?_
            refine JL.pure rfl rfl ?_
            refine JL.want rfl rfl ?_
            refine JL.pure rfl rfl ?_
            refine JL.want rfl rfl ?_
            refine JL.pure rfl rfl ?_
            refine JL.cases 126 rfl ?_ ?_
            · intro h126
              (try simp only [Bool.not_eq_true', Bool.not_eq_false', decide_eq_true_eq, decide_eq_false_iff_not] at h126)
              refine JL.pass rfl rfl rfl rfl ?_
              refine JL.pass rfl rfl rfl rfl ?_
              refine JL.pass rfl rfl rfl rfl ?_
              refine JL.pass rfl rfl rfl rfl ?_
              refine JL.pass rfl rfl rfl rfl ?_
              refine JL.pass rfl rfl rfl rfl ?_
              refine JL.pass rfl rfl rfl rfl ?_
              refine JL.pass rfl rfl rfl rfl ?_
              refine JL.pass rfl rfl rfl rfl ?_
              refine JL.pass rfl rfl rfl rfl ?_
              refine JL.pass rfl rfl rfl rfl ?_
              refine JL.pass rfl rfl rfl rfl ?_
              refine JL.pass rfl rfl rfl rfl ?_
              refine JL.pass rfl rfl rfl rfl ?_
              refine JL.pass rfl rfl rfl rfl ?_
              refine JL.want rfl rfl ?_
              refine JL.pure rfl rfl ?_
              refine JL.pure rfl rfl ?_
              refine JL.nil ?_
              refine Ex.to ⟨rfl, rfl, rfl, rfl, rfl, rfl, rfl, rfl, ?_, trivial⟩ H
              show some (Value.bool _) = some (Value.bool _)
              first | rfl | (rw [rd1 h120] at h126; cases h126; done) | (rw [rd2]; simp)
            · intro h126
              (try simp only [Bool.not_eq_true', Bool.not_eq_false', decide_eq_true_eq, decide_eq_false_iff_not] at h126)
              refine JL.want rfl rfl ?_
              refine JL.pure rfl rfl ?_
              refine JL.want rfl rfl ?_
              refine JL.loadB 2 H rfl sh62 rfl rfl rfl ?_
              refine JL.want rfl rfl ?_
              refine JL.callP H fb48 rfl rfl (has_c _ (discR g a radius).1 c _ (runSl H (j := 1) rfl (by have := discR_len g a radius; omega))) ?_
              intro w15 H _
              refine JL.want rfl rfl ?_
              refine JL.pure rfl rfl ?_
              refine JL.want rfl rfl ?_
              refine JL.pure rfl rfl ?_
              refine JL.want rfl rfl ?_
              refine JL.pure rfl rfl ?_
              refine JL.want rfl rfl ?_
              refine JL.pure rfl rfl ?_
              refine JL.want rfl rfl ?_
              refine JL.pure rfl rfl ?_
              refine JL.want rfl rfl ?_
              refine JL.pure rfl rfl ?_
              refine JL.want rfl rfl ?_
              refine JL.pure rfl rfl ?_
              refine JL.want rfl rfl ?_
              refine JL.pure rfl rfl ?_
              refine JL.want rfl rfl ?_
              refine JL.pure rfl rfl ?_
              refine JL.want rfl rfl ?_
              refine JL.pure rfl rfl ?_
              refine JL.want rfl rfl ?_
              refine JL.pure rfl rfl ?_
              refine JL.re 140 rfl (v' := .bool (decide (awayI g.S a.X c.X * awayI g.S a.X c.X + awayI g.S a.Y c.Y * awayI g.S a.Y c.Y ≤ radius * radius))) (by rw [w64_aw m1 hgS hab.1, w64_aw m2 hgS hab.2, w64_sq (away_bd m1 hgS hab.1) (away_bd m2 hgS hab.2), w64_s (by omega)]) ?_
              refine JL.want rfl rfl ?_
              refine JL.eqs rfl rfl (neqBool 4 Try.underlying4 _ _) rfl ?_
              refine JL.want rfl rfl ?_
              refine JL.pure rfl rfl ?_
              refine JL.pure rfl rfl ?_
              refine JL.nil ?_
              refine Ex.to ⟨rfl, rfl, rfl, rfl, rfl, rfl, rfl, rfl, ?_, trivial⟩ H
              show some (Value.bool _) = some (Value.bool _)
              first | rfl | (rw [rd1 h120] at h126; cases h126; done) | (rw [rd2]; simp)
          · intro h120
            (try simp only [Bool.not_eq_true', Bool.not_eq_false', decide_eq_true_eq, decide_eq_false_iff_not] at h120)
            refine JL.pass rfl rfl rfl rfl ?_
            refine JL.pass rfl rfl rfl rfl ?_
            refine JL.pass rfl rfl rfl rfl ?_
            refine JL.pass rfl rfl rfl rfl ?_
            refine JL.want rfl rfl ?_
            refine JL.pure rfl rfl ?_
            refine JL.want rfl rfl ?_
            refine JL.pure rfl rfl ?_
            refine JL.want rfl rfl ?_
            refine JL.pure rfl rfl ?_
            refine JL.want rfl rfl ?_
            refine JL.loadB 2 H rfl sh62 rfl rfl rfl ?_
            refine JL.want rfl rfl ?_
            refine JL.callP H fb48 rfl rfl (has_c _ (discR g a radius).1 c _ (runSl H (j := 1) rfl (by have := discR_len g a radius; omega))) ?_
            intro w16 H _
            refine JL.want rfl rfl ?_
            refine JL.pure rfl rfl ?_
            refine JL.want rfl rfl ?_
            refine JL.pure rfl rfl ?_
            refine JL.want rfl rfl ?_
            refine JL.pure rfl rfl ?_
            refine JL.want rfl rfl ?_
            refine JL.pure rfl rfl ?_
            refine JL.want rfl rfl ?_
            refine JL.pure rfl rfl ?_
            refine JL.want rfl rfl ?_
            refine JL.pure rfl rfl ?_
            refine JL.want rfl rfl ?_
            refine JL.pure rfl rfl ?_
            refine JL.want rfl rfl ?_
            refine JL.pure rfl rfl ?_
            refine JL.want rfl rfl ?_
            refine JL.pure rfl rfl ?_
            refine JL.want rfl rfl ?_
            refine JL.pure rfl rfl ?_
            refine JL.want rfl rfl ?_
            refine JL.pure rfl rfl ?_
            refine JL.re 140 rfl (v' := .bool (decide (awayI g.S a.X c.X * awayI g.S a.X c.X + awayI g.S a.Y c.Y * awayI g.S a.Y c.Y ≤ radius * radius))) (by rw [w64_aw m1 hgS hab.1, w64_aw m2 hgS hab.2, w64_sq (away_bd m1 hgS hab.1) (away_bd m2 hgS hab.2), w64_s (by omega)]) ?_
            refine JL.want rfl rfl ?_
            refine JL.eqs rfl rfl (neqBool 4 Try.underlying4 _ _) rfl ?_
            refine JL.want rfl rfl ?_
            refine JL.pure rfl rfl ?_
            refine JL.pure rfl rfl ?_
            refine JL.nil ?_
            refine Ex.to ⟨rfl, rfl, rfl, rfl, rfl, rfl, rfl, rfl, ?_, trivial⟩ H
            show some (Value.bool _) = some (Value.bool _)
            first | rfl | (rw [rd1 h120] at h126; cases h126; done) | (rw [rd2]; simp)
        · intro h108
          (try simp only [Bool.not_eq_true', Bool.not_eq_false', decide_eq_true_eq, decide_eq_false_iff_not] at h108)
          have hf0 : (discR g a radius).2 ≠ 0 := by simpa using h108
          refine JL.pass rfl rfl rfl rfl ?_
          refine JL.pass rfl rfl rfl rfl ?_
          refine JL.pass rfl rfl rfl rfl ?_
          refine JL.pass rfl rfl rfl rfl ?_
          refine JL.pass rfl rfl rfl rfl ?_
          refine JL.pass rfl rfl rfl rfl ?_
          refine JL.pass rfl rfl rfl rfl ?_
          refine JL.pass rfl rfl rfl rfl ?_
          refine JL.pass rfl rfl rfl rfl ?_
          refine JL.pass rfl rfl rfl rfl ?_
          refine JL.pass rfl rfl rfl rfl ?_
          refine JL.pass rfl rfl rfl rfl ?_
          refine JL.passU rfl rfl rfl ?_
          refine JL.passU rfl rfl rfl ?_
          refine JL.passU rfl rfl rfl ?_
          refine JL.passU rfl rfl rfl ?_
          refine JL.pass rfl rfl rfl rfl ?_
          refine JL.pass rfl rfl rfl rfl ?_
          refine JL.passU rfl rfl rfl ?_
          refine JL.passU rfl rfl rfl ?_
          refine JL.passU rfl rfl rfl ?_
          refine JL.passU rfl rfl rfl ?_
          refine JL.passU rfl rfl rfl ?_
          refine JL.passU rfl rfl rfl ?_
          refine JL.passU rfl rfl rfl ?_
          refine JL.passU rfl rfl rfl ?_
          refine JL.passU rfl rfl rfl ?_
          refine JL.passU rfl rfl rfl ?_
          refine JL.passU rfl rfl rfl ?_
          refine JL.passU rfl rfl rfl ?_
          refine JL.passU rfl rfl rfl ?_
          refine JL.passU rfl rfl rfl ?_
          refine JL.passU rfl rfl rfl ?_
          refine JL.pass rfl rfl rfl rfl ?_
          refine JL.pure rfl rfl ?_
          refine JL.nil ?_
          refine Ex.to ⟨rfl, rfl, rfl, rfl, rfl, rfl, rfl, rfl, ?_, trivial⟩ H
          show some (Value.bool _) = some (Value.bool _)
          first | rfl | (rw [rd1 h120] at h126; cases h126; done) | (rw [rd2]; simp)
      · intro wc H
        ((repeat refine Ex.normal_block ?_); refine Ex.next ?_)
        ((repeat refine JC.seq ?_); refine JC.cond rfl (fun h => by cases h) (fun _ => ?_))
        ((repeat refine JC.seq ?_); refine JC.skip ?_)
        ((repeat refine Ex.normal_block ?_); refine Ex.next ?_)
        ((repeat refine JC.seq ?_); refine JC.region ?_)
        refine JL.fieldAddr rfl Try.underlying23 rfl sh3 rfl ?_
        refine JL.loadB 4 H rfl sh3 rfl rfl rfl ?_
        refine JL.fieldAddr rfl Try.underlying23 rfl sh3 rfl ?_
        refine JL.loadB 5 H rfl sh3 rfl rfl rfl ?_
        refine JL.pure rfl rfl ?_
        refine JL.pure rfl rfl ?_
        refine JL.pure rfl rfl ?_
        refine JL.fieldAddr rfl Try.underlying23 rfl sh3 rfl ?_
        refine JL.loadB 4 H rfl sh3 rfl rfl rfl ?_
        refine JL.fieldAddr rfl Try.underlying23 rfl sh3 rfl ?_
        refine JL.loadB 5 H rfl sh3 rfl rfl rfl ?_
        refine JL.pure rfl rfl ?_
        refine JL.pure rfl rfl ?_
        refine JL.pure rfl rfl ?_
        refine JL.pure rfl rfl ?_
        refine JL.pure rfl rfl ?_
        refine JL.pure rfl rfl ?_
        refine JL.nil ?_
        ((repeat refine Ex.normal_block ?_); refine Ex.next ?_)
        ((repeat refine JC.seq ?_); refine JC.region ?_)
        refine JL.pure rfl rfl ?_
        refine JL.pure rfl rfl ?_
        refine JL.want rfl rfl ?_
        refine JL.pure rfl rfl ?_
        refine JL.want rfl rfl ?_
        refine JL.pure rfl rfl ?_
        refine JL.want rfl rfl ?_
        refine JL.pure rfl rfl ?_
        refine JL.cases 164 rfl ?_ ?_
        · intro h164
          (try simp only [Bool.not_eq_true', Bool.not_eq_false', decide_eq_true_eq, decide_eq_false_iff_not] at h164)
          refine JL.pass rfl rfl rfl rfl ?_
          refine JL.pass rfl rfl rfl rfl ?_
          refine JL.want rfl rfl ?_
          refine JL.pure rfl rfl ?_
          refine JL.want rfl rfl ?_
          refine JL.pure rfl rfl ?_
          refine JL.pass rfl rfl rfl rfl ?_
          refine JL.pass rfl rfl rfl rfl ?_
          refine JL.pass rfl rfl rfl rfl ?_
          refine JL.want rfl rfl ?_
          refine JL.pure rfl rfl ?_
          refine JL.pure rfl rfl ?_
          refine JL.pure rfl rfl ?_
          refine JL.nil ?_
          ((repeat refine Ex.normal_block ?_); refine Ex.next ?_)
          ((repeat refine JC.seq ?_); refine JC.ret ?_)
          (repeat (first | refine Ex.ret_then ?_ | refine Ex.ret_block ?_))
          refine Ex.ret1 rfl (.tmp rfl) ⟨?_, H.below⟩
          rfl
        · intro h164
          (try simp only [Bool.not_eq_true', Bool.not_eq_false', decide_eq_true_eq, decide_eq_false_iff_not] at h164)
          refine JL.want rfl rfl ?_
          refine JL.pure rfl rfl ?_
          refine JL.want rfl rfl ?_
          refine JL.pure rfl rfl ?_
          refine JL.want rfl rfl ?_
          refine JL.pure rfl rfl ?_
          refine JL.want rfl rfl ?_
          refine JL.pure rfl rfl ?_
          refine JL.cases 168 rfl ?_ ?_
          · intro h168
            (try simp only [Bool.not_eq_true', Bool.not_eq_false', decide_eq_true_eq, decide_eq_false_iff_not] at h168)
            refine JL.pass rfl rfl rfl rfl ?_
            refine JL.pass rfl rfl rfl rfl ?_
            refine JL.pass rfl rfl rfl rfl ?_
            refine JL.want rfl rfl ?_
            refine JL.pure rfl rfl ?_
            refine JL.pure rfl rfl ?_
            refine JL.pure rfl rfl ?_
            refine JL.nil ?_
            ((repeat refine Ex.normal_block ?_); refine Ex.next ?_)
            ((repeat refine JC.seq ?_); refine JC.ret ?_)
            (repeat (first | refine Ex.ret_then ?_ | refine Ex.ret_block ?_))
            refine Ex.ret1 rfl (.tmp rfl) ⟨?_, H.below⟩
            rfl
          · intro h168
            (try simp only [Bool.not_eq_true', Bool.not_eq_false', decide_eq_true_eq, decide_eq_false_iff_not] at h168)
            refine JL.want rfl rfl ?_
            refine JL.pure rfl rfl ?_
            refine JL.want rfl rfl ?_
            refine JL.loadB 2 H rfl sh62 rfl rfl rfl ?_
            refine JL.want rfl rfl ?_
            refine JL.callP H fb48 rfl rfl (has_c _ (halfR g a b).1 c _ (runSl H (j := 0) rfl (by have := halfR_len g a b; omega))) ?_
            intro w17 H _
            refine JL.want rfl rfl ?_
            refine JL.pure rfl rfl ?_
            refine JL.pure rfl rfl ?_
            refine JL.pure rfl rfl ?_
            refine JL.nil ?_
            ((repeat refine Ex.normal_block ?_); refine Ex.next ?_)
            ((repeat refine JC.seq ?_); refine JC.ret ?_)
            (repeat (first | refine Ex.ret_then ?_ | refine Ex.ret_block ?_))
            refine Ex.ret1 rfl (.tmp rfl) ⟨?_, H.below⟩
            have hh0 : (halfR g a b).2 = 0 := by simpa using h164
            obtain ⟨_, hao, hbo, _⟩ := halfR_ok hh0
            have ha2 := Spot.ok_b hao
            have hb2 := Spot.ok_b hbo
            have h168 : 0 ≤ w64 (w64 (w64 (b.X - a.X) * w64 (s.Y - a.Y)) - w64 (w64 (b.Y - a.Y) * w64 (s.X - a.X))) := by simpa using h168
            rw [w64_d hsb.1 ha2.1, w64_d hsb.2 ha2.2, w64_d hb2.1 ha2.1, w64_d hb2.2 ha2.2, w64_left (by omega) (by omega) (by omega) (by omega)] at h168
            have hq := reach_half (g := g) (s := s) (a := a) (b := b) (by rw [hce]) hh0 h168
            rw [hce] at hq
            exact congrArg (fun b => Ending.returned (Value.bool b)) hq
end Go.J
