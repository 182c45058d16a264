/-
  Lemmas for the statements of this seat; no statement is proved here. No condition.
-/
import Derived.Test.YtfbmgmdjaoackaaM4
namespace Go.J
open Go.RowKit Go.Proofs
set_option maxRecDepth 8000
set_option linter.unusedSimpArgs false
set_option linter.unusedVariables false
theorem za366 : tyZero Try.prog 366 = some (List.replicate 2 (.slice none 0 0)) := by kernel_rfl
/-- flows in memory -/
def FlowsIs (w : World) (v : Value) (fl : List Flow) : Prop := Sl Flow.ev (true, 7) w v fl ∧ ∀ f ∈ fl, SlR w f.wv f.wh
theorem FlowsIs.grow {w w' : World} {v : Value} {fl : List Flow} (h : FlowsIs w v fl) (hB : Below w.heap.size w w') : FlowsIs w' v fl := ⟨h.1.grow hB, fun f hf => (h.2 f hf).grow hB⟩
def flowsB1 (g : Grid) (fl : List Flow) : Bool := decide (fl.length ≤ 64) && fl.all (flowB g)
def flowsB (g : Grid) (cu wi : List Flow) : Bool := g.ok && flowsB1 g cu && flowsB1 g wi
theorem any_not {α : Type} (p : α → Bool) (l : List α) : l.any (fun x => !p x) = !l.all p := by
  induction l with
  | nil => rfl
  | cons a l ih => simp only [List.any_cons, List.all_cons, ih, Bool.not_and]
theorem checkFlows_c (g : Grid) (lv cv wv : Value) (cu wi : List Flow) (w : World) (hl : SlR w lv g.land) (hc : FlowsIs w cv cu) (hw : FlowsIs w wv wi) : Pur Try.prog 226 #[g.ev lv, .agg ⟨[cv, wv]⟩] w (.int .i64 (if flowsB g cu wi then 0 else 2)) := by
  obtain ⟨la, lc, rfl⟩ := hl.len
  obtain ⟨ca, cc, rfl⟩ := hc.1.len
  obtain ⟨wa, wc, rfl⟩ := hw.1.len
  refine pur_J (args := [g.ev (.slice la g.land.length lc), .agg ⟨[.slice ca cu.length cc, .slice wa wi.length wc]⟩]) Try.func226 rfl Try.ntmps226 rfl ?_
  have H := Own.start w
  ((repeat refine JC.seq ?_); refine JC.region ?_)
  refine JL.box H rfl rfl rfl ?_
  intro b2 w1 H
  refine JL.box H rfl rfl rfl ?_
  intro b3 w2 H
  refine JL.pure rfl rfl ?_
  refine JL.nil ?_
  ((repeat refine Ex.normal_block ?_); refine Ex.next ?_)
  ((repeat refine JC.seq ?_); refine JC.region ?_)
  refine JL.loadB 1 H rfl sh52 rfl rfl rfl ?_
  refine JL.callP H fb141 rfl rfl (checkGrid_c g _ _ (hl.grow H.below)) ?_
  intro w3 H _
  refine JL.pure rfl rfl ?_
  refine JL.nil ?_
  ((repeat refine Ex.normal_block ?_); refine Ex.next ?_)
  ((repeat refine JC.seq ?_); refine JC.cond rfl ?_ ?_)
  · intro h9
    (try simp only [Bool.not_eq_true', Bool.not_eq_false', decide_eq_true_eq, decide_eq_false_iff_not] at h9)
    have hok : g.ok = false := by
      cases hc : g.ok with
      | false => rfl
      | true => exfalso; rw [hc] at h9; simp at h9
    ((repeat refine JC.seq ?_); refine JC.region ?_)
    refine JL.pure rfl rfl ?_
    refine JL.nil ?_
    ((repeat refine Ex.normal_block ?_); refine Ex.next ?_)
    ((repeat refine JC.seq ?_); refine JC.ret ?_)
    (repeat (first | refine Ex.ret_then ?_ | refine Ex.ret_block ?_))
    refine Ex.ret1 rfl (.tmp rfl) ⟨?_, H.below⟩
    unfold flowsB; rw [hok]; rfl
  · intro h9
    (try simp only [Bool.not_eq_true', Bool.not_eq_false', decide_eq_true_eq, decide_eq_false_iff_not] at h9)
    have hok : g.ok = true := by
      cases hc : g.ok with
      | true => rfl
      | false => exfalso; rw [hc] at h9; simp at h9
    ((repeat refine JC.seq ?_); refine JC.skip ?_)
    ((repeat refine Ex.normal_block ?_); refine Ex.next ?_)
    ((repeat refine JC.seq ?_); refine JC.region ?_)
    refine JL.fieldAddr rfl Try.underlying84 rfl sh82 rfl ?_
    refine JL.loadB 0 H rfl sh82 rfl rfl rfl ?_
    refine JL.fieldAddr rfl Try.underlying84 rfl sh82 rfl ?_
    refine JL.loadB 0 H rfl sh82 rfl rfl rfl ?_
    refine JL.buildA Try.underlying366 sh82 za366 rfl rfl ?_
    refine JL.pure rfl rfl ?_
    refine JL.nil ?_
    ((repeat refine Ex.normal_block ?_); refine Ex.next ?_)
    ((repeat refine JC.seq ?_); refine JC.block ?_)
    ((repeat refine JC.seq ?_); refine JC.loop (ι := Nat) (fun k => [(2, .pointer (some ⟨b2, 0, none⟩)), (14, .agg ⟨[.slice ca cu.length cc, .slice wa wi.length wc]⟩), (15, .int .i64 k)])
      (fun k wr => k ≤ 2 ∧ ((0 < k → flowsB1 g cu = true) ∧ (1 < k → flowsB1 g wi = true)) ∧ Own w wr [blk b3 (.cells ⟨[.slice ca cu.length cc, .slice wa wi.length wc]⟩ 84 (0, 0)), blk b2 (.cells ⟨[.int .i64 g.W, .int .i64 g.H, .int .i64 g.S, .slice la g.land.length lc]⟩ 52 (0, 0))]) (fun k => 2 - k) 0 ?_ ?_ ?_)
    · exact ⟨rfl, rfl, rfl, trivial⟩
    · exact ⟨Nat.zero_le _, ⟨by omega, by omega⟩, H⟩
    · rintro k wr ⟨hk, hg1, H⟩
      ((repeat refine JC.seq ?_); refine JC.region ?_)
      refine JL.pure rfl rfl ?_
      refine JL.nil ?_
      ((repeat refine Ex.normal_block ?_); refine Ex.next ?_)
      ((repeat refine JC.seq ?_); refine JC.cond rfl ?_ ?_)
      · intro h16
        (try simp only [Bool.not_eq_true', Bool.not_eq_false', decide_eq_true_eq, decide_eq_false_iff_not] at h16)
        have h16 : k < 2 := by omega
        obtain ⟨fv, fl, hfl, hfv, hfs, hat⟩ : ∃ fv fl, ((k = 0 ∧ fl = cu) ∨ (k = 1 ∧ fl = wi)) ∧ [Value.slice ca cu.length cc, Value.slice wa wi.length wc][k]? = some fv ∧ FlowsIs w fv fl ∧ ∃ fa fc, fv = .slice fa fl.length fc := by
          rcases (show k = 0 ∨ k = 1 by omega) with rfl | rfl
          · exact ⟨_, cu, .inl ⟨rfl, rfl⟩, rfl, hc, _, _, rfl⟩
          · exact ⟨_, wi, .inr ⟨rfl, rfl⟩, rfl, hw, _, _, rfl⟩
        obtain ⟨fa, fc, rfl⟩ := hat
        ((repeat refine JC.seq ?_); refine JC.skip ?_)
        ((repeat refine Ex.normal_block ?_); refine Ex.next ?_)
        ((repeat refine JC.seq ?_); refine JC.block ?_)
        ((repeat refine JC.seq ?_); refine JC.region ?_)
        refine JL.index1 k rfl rfl Try.underlying366 sh82 rfl h16 hfv rfl ?_
        refine JL.pure rfl rfl ?_
        refine JL.nil ?_
        ((repeat refine Ex.normal_block ?_); refine Ex.next ?_)
        ((repeat refine JC.seq ?_); refine JC.region ?_)
        refine JL.pure rfl rfl ?_
        refine JL.len rfl Try.underlying82 rfl ?_
        refine JL.pure rfl rfl ?_
        refine JL.pure rfl rfl ?_
        refine JL.cases 21 rfl ?_ ?_
        · intro h21
          (try simp only [Bool.not_eq_true', Bool.not_eq_false', decide_eq_true_eq, decide_eq_false_iff_not] at h21)
          refine JL.pass rfl rfl rfl rfl ?_
          refine JL.pass rfl rfl rfl rfl ?_
          refine JL.pass rfl rfl rfl rfl ?_
          refine JL.pure rfl rfl ?_
          refine JL.nil ?_
          ((repeat refine Ex.normal_block ?_); refine Ex.next ?_)
          ((repeat refine JC.seq ?_); refine JC.cond rfl (fun _ => ?_) (fun h => by cases h))
          ((repeat refine JC.seq ?_); refine JC.region ?_)
          refine JL.pure rfl rfl ?_
          refine JL.nil ?_
          ((repeat refine Ex.normal_block ?_); refine Ex.next ?_)
          ((repeat refine JC.seq ?_); refine JC.ret ?_)
          (repeat (first | refine Ex.ret_then ?_ | refine Ex.ret_block ?_))
          refine Ex.ret1 rfl (.tmp rfl) ⟨?_, H.below⟩
          have hB : flowsB1 g fl = false := by
            unfold flowsB1
            first
              | (rw [decide_eq_false (by omega)]; rfl)
              | (rw [show fl.all (flowB g) = false by cases hh : fl.all (flowB g) <;> simp [hh] at h25 ⊢]; simp)
          have : flowsB g cu wi = false := by
            unfold flowsB
            rcases hfl with ⟨_, rfl⟩ | ⟨_, rfl⟩ <;> simp [hB]
          rw [this]; rfl
        · intro h21
          (try simp only [Bool.not_eq_true', Bool.not_eq_false', decide_eq_true_eq, decide_eq_false_iff_not] at h21)
          refine JL.want rfl rfl ?_
          refine JL.pure rfl rfl ?_
          refine JL.want rfl rfl ?_
          refine JL.pure rfl rfl ?_
          refine JL.want rfl rfl ?_
          have hgb := H.get (i := 1) rfl
          have hlt := lt_of_block hgb.2
          refine JL.callP H fb276 rfl rfl (contains_flow _ fl (fun f => !flowB g f) 277 [.pointer (some ⟨b2, 0, none⟩)] _ fb277 (hfs.1.grow H.below) (fun w' hb' f hf => checkFlows1_c g (.slice la g.land.length lc) f b2 w' (Nat.lt_of_lt_of_le hlt hb'.size) ((LdAt.of_block hgb.2 rfl).grow hlt hb') (hl.grow (H.below.trans (hb'.mono H.below.size))) ((hfs.2 f hf).grow (H.below.trans (hb'.mono H.below.size))))) ?_
          intro w4 H _
          refine JL.re 24 rfl (v' := .bool (!fl.all (flowB g))) (congrArg Value.bool (any_not _ _)) ?_
          refine JL.pure rfl rfl ?_
          refine JL.nil ?_
          ((repeat refine Ex.normal_block ?_); refine Ex.next ?_)
          ((repeat refine JC.seq ?_); refine JC.cond rfl ?_ ?_)
          · intro h25
            (try simp only [Bool.not_eq_true', Bool.not_eq_false', decide_eq_true_eq, decide_eq_false_iff_not] at h25)
            ((repeat refine JC.seq ?_); refine JC.region ?_)
            refine JL.pure rfl rfl ?_
            refine JL.nil ?_
            ((repeat refine Ex.normal_block ?_); refine Ex.next ?_)
            ((repeat refine JC.seq ?_); refine JC.ret ?_)
            (repeat (first | refine Ex.ret_then ?_ | refine Ex.ret_block ?_))
            refine Ex.ret1 rfl (.tmp rfl) ⟨?_, H.below⟩
            have hB : flowsB1 g fl = false := by
              unfold flowsB1
              first
                | (rw [decide_eq_false (by omega)]; rfl)
                | (rw [show fl.all (flowB g) = false by cases hh : fl.all (flowB g) <;> simp [hh] at h25 ⊢]; simp)
            have : flowsB g cu wi = false := by
              unfold flowsB
              rcases hfl with ⟨_, rfl⟩ | ⟨_, rfl⟩ <;> simp [hB]
            rw [this]; rfl
          · intro h25
            (try simp only [Bool.not_eq_true', Bool.not_eq_false', decide_eq_true_eq, decide_eq_false_iff_not] at h25)
            ((repeat refine JC.seq ?_); refine JC.skip ?_)
            ((repeat refine Ex.normal_block ?_); refine Ex.next ?_)
            ((repeat refine JC.seq ?_); refine JC.region ?_)
            refine JL.arith rfl (by unfold In64; omega) rfl ?_
            refine JL.pure rfl rfl ?_
            refine JL.nil ?_
            (repeat refine Ex.normal_block ?_)
            refine Ex.again (k + 1) ⟨rfl, rfl, rfl, trivial⟩ ⟨by omega, ?_, H⟩ (by omega)
            have hB : flowsB1 g fl = true := by
              unfold flowsB1
              rw [decide_eq_true (by omega), show fl.all (flowB g) = true by cases hh : fl.all (flowB g) <;> simp [hh] at h25 ⊢]
              rfl
            rcases hfl with ⟨rfl, rfl⟩ | ⟨rfl, rfl⟩
            · exact ⟨fun _ => hB, by omega⟩
            · exact ⟨fun _ => hg1.1 (by omega), fun _ => hB⟩
      · intro h16
        (try simp only [Bool.not_eq_true', Bool.not_eq_false', decide_eq_true_eq, decide_eq_false_iff_not] at h16)
        have hk2 : k = 2 := by omega
        subst hk2
        ((repeat refine JC.seq ?_); refine JC.exit ?_)
        (repeat (first | refine Ex.exit_then ?_ | refine Ex.exit_miss (by decide) ?_))
        refine Ex.exit_hit ?_
        ((repeat refine Ex.normal_block ?_); refine Ex.next ?_)
        ((repeat refine JC.seq ?_); refine JC.region ?_)
        refine JL.pure rfl rfl ?_
        refine JL.nil ?_
        ((repeat refine Ex.normal_block ?_); refine Ex.next ?_)
        ((repeat refine JC.seq ?_); refine JC.ret ?_)
        (repeat (first | refine Ex.ret_then ?_ | refine Ex.ret_block ?_))
        refine Ex.ret1 rfl (.tmp rfl) ⟨?_, H.below⟩
        have : flowsB g cu wi = true := by
          unfold flowsB
          rw [hok, hg1.1 (by omega), hg1.2 (by omega)]; rfl
        rw [this]; rfl
end Go.J

namespace Go.J
open Go.RowKit Go.Proofs
set_option maxRecDepth 8000
set_option linter.unusedSimpArgs false
set_option linter.unusedVariables false
theorem za292 : tyZero Try.prog 292 = some (List.replicate 3 (.slice none 0 0)) := by kernel_rfl
/-- the bounds of flows at a cell -/
def atStep (c : Cell) (time : Int) (s : Bnd × Bnd × Bool) (f : Flow) : Bnd × Bnd × Bool :=
  if (f.fr ≤ time ∧ time ≤ f.to - 1) ∧ hasB f.wh c = true then
    (if s.2.2 then (⟨min s.1.low f.low.X, max s.1.high f.high.X⟩, ⟨min s.2.1.low f.low.Y, max s.2.1.high f.high.Y⟩, true) else (⟨f.low.X, f.high.X⟩, ⟨f.low.Y, f.high.Y⟩, true))
  else s
def atR (fl : List Flow) (c : Cell) (time : Int) : Bnd × Bnd × Bool := fl.foldl (atStep c time) (⟨0, 0⟩, ⟨0, 0⟩, false)
theorem atR_take {fl : List Flow} {c : Cell} {time : Int} {k : Nat} (hk : k < fl.length) : atR (fl.take (k + 1)) c time = atStep c time (atR (fl.take k) c time) fl[k] := by
  unfold atR; rw [List.take_succ_eq_append_getElem hk, List.foldl_append]; rfl
theorem at_c (v : Value) (fl : List Flow) (c : Cell) (time : Int) (w : World) (hf : FlowsIs w v fl) (hto : ∀ f ∈ fl, 1 ≤ f.to ∧ f.to ≤ 1073741824) :
    Pur Try.prog 268 #[v, c.ev, .int .i64 time] w (.tuple #[(atR fl c time).1.ev, (atR fl c time).2.1.ev, .bool (atR fl c time).2.2]) := by
  obtain ⟨⟨hlen, a, cap, rfl, ha⟩, hfs⟩ := hf
  refine pur_J (args := [.slice a fl.length cap, c.ev, .int .i64 time]) Try.func268 rfl Try.ntmps268 rfl ?_
  have H := Own.start w
  ((repeat refine JC.seq ?_); refine JC.region ?_)
  refine JL.box H rfl rfl rfl ?_
  intro b4 w1 H
  refine JL.alloc H z358 rfl ?_
  intro b6 w2 H
  refine JL.alloc H z358 rfl ?_
  intro b7 w3 H
  refine JL.pure rfl rfl ?_
  refine JL.nil ?_
  ((repeat refine Ex.normal_block ?_); refine Ex.next ?_)
  ((repeat refine JC.seq ?_); refine JC.region ?_)
  refine JL.pure rfl rfl ?_
  refine JL.len rfl Try.underlying82 rfl ?_
  refine JL.pure rfl rfl ?_
  refine JL.nil ?_
  ((repeat refine Ex.normal_block ?_); refine Ex.next ?_)
  ((repeat refine JC.seq ?_); refine JC.block ?_)
  ((repeat refine JC.seq ?_); refine JC.loop (ι := Nat) (fun k => [(2, .int .i64 time), (4, .pointer (some ⟨b4, 0, none⟩)), (6, .pointer (some ⟨b6, 0, none⟩)), (7, .pointer (some ⟨b7, 0, none⟩)), (8, .bool (atR (fl.take k) c time).2.2), (11, .slice a fl.length cap), (12, .int .i64 fl.length), (13, .int .i64 k)])
    (fun k wr => k ≤ fl.length ∧ Own w wr [blk b7 (.cells ⟨[.int .i64 (atR (fl.take k) c time).2.1.low, .int .i64 (atR (fl.take k) c time).2.1.high]⟩ 358 (0, 0)), blk b6 (.cells ⟨[.int .i64 (atR (fl.take k) c time).1.low, .int .i64 (atR (fl.take k) c time).1.high]⟩ 358 (0, 0)), blk b4 (.cells ⟨[.int .i64 c.X, .int .i64 c.Y]⟩ 62 (0, 0))]) (fun k => fl.length - k) 0 ?_ ?_ ?_)
  · exact ⟨rfl, rfl, rfl, rfl, rfl, rfl, rfl, rfl, trivial⟩
  · exact ⟨Nat.zero_le _, H⟩
  · rintro k wr ⟨hk, H⟩
    obtain ⟨sc9, hsc9⟩ : ∃ s, s = atR (fl.take k) c time := ⟨_, rfl⟩
    rw [← hsc9] at H
    show JC _ _ _ _ [(2, .int .i64 time), (4, .pointer (some ⟨b4, 0, none⟩)), (6, .pointer (some ⟨b6, 0, none⟩)), (7, .pointer (some ⟨b7, 0, none⟩)), (8, .bool (atR (fl.take k) c time).2.2), (11, .slice a fl.length cap), (12, .int .i64 fl.length), (13, .int .i64 k)] _
    rw [← hsc9]
    ((repeat refine JC.seq ?_); refine JC.region ?_)
    refine JL.pure rfl rfl ?_
    refine JL.nil ?_
    ((repeat refine Ex.normal_block ?_); refine Ex.next ?_)
    ((repeat refine JC.seq ?_); refine JC.cond rfl ?_ ?_)
    · intro h14
      (try simp only [Bool.not_eq_true', Bool.not_eq_false', decide_eq_true_eq, decide_eq_false_iff_not] at h14)
      have h14 : k < fl.length := by omega
      obtain ⟨βr, off, rfl, hβ, hc⟩ := ha.resolve_left (by rintro rfl; simp at h14)
      have hx : fl[k]? = some fl[k] := by simp [h14]
      have hxs := hfs _ (List.getElem_mem h14)
      have hxt := hto _ (List.getElem_mem h14)
      obtain ⟨f9, hfe⟩ : ∃ f, fl[k] = f := ⟨_, rfl⟩
      rw [hfe] at hx hxs hxt
      obtain ⟨fr, to, wv, wh, low, high⟩ := f9
      simp only at hxs hxt
      obtain ⟨fa, fc, rfl⟩ := hxs.len
      ((repeat refine JC.seq ?_); refine JC.skip ?_)
      ((repeat refine Ex.normal_block ?_); refine Ex.next ?_)
      ((repeat refine JC.seq ?_); refine JC.block ?_)
      ((repeat refine JC.seq ?_); refine JC.region ?_)
      refine JL.indexS k rfl rfl Try.underlying82 sh218 rfl h14 rfl ?_
      refine JL.load (v := .agg ⟨[.int .i64 fr, .int .i64 to, .slice fa wh.length fc, .int .i64 low.X, .int .i64 low.Y, .int .i64 high.X, .int .i64 high.Y]⟩) rfl sh218 ((hc k _ hx).grow hβ H.below) rfl ?_
      refine JL.alloc H z218 rfl ?_
      intro b10 w4 H
      refine JL.storeB 0 H rfl rfl sh218 rfl rfl rfl rfl rfl ?_
      intro w5 H
      refine JL.nil ?_
      ((repeat refine Ex.normal_block ?_); refine Ex.next ?_)
      ((repeat refine JC.seq ?_); refine JC.region ?_)
      refine JL.pure rfl rfl ?_
      refine JL.fieldAddr rfl Try.underlying218 rfl sh3 rfl ?_
      refine JL.loadB 0 H rfl sh3 rfl rfl rfl ?_
      refine JL.fieldAddr rfl Try.underlying218 rfl sh3 rfl ?_
      refine JL.loadB 0 H rfl sh3 rfl rfl rfl ?_
      refine JL.arith rfl (by unfold In64; omega) rfl ?_
      refine JL.callP H fb204 rfl rfl (withinD_c _ _ _ _) ?_
      intro w6 H _
      refine JL.pure rfl rfl ?_
      refine JL.pure rfl rfl ?_
      refine JL.cases 25 rfl ?_ ?_
      · intro h25
        (try simp only [Bool.not_eq_true', Bool.not_eq_false', decide_eq_true_eq, decide_eq_false_iff_not] at h25)
        have hno : ¬((fr ≤ time ∧ time ≤ to - 1) ∧ hasB wh c = true) := by rintro ⟨h, _⟩; omega
        refine JL.pass rfl rfl rfl rfl ?_
        refine JL.pass rfl rfl rfl rfl ?_
        refine JL.pass rfl rfl rfl rfl ?_
        refine JL.pass rfl rfl rfl rfl ?_
        refine JL.pass rfl rfl rfl rfl ?_
        refine JL.pure rfl rfl ?_
        refine JL.nil ?_
        ((repeat refine Ex.normal_block ?_); refine Ex.next ?_)
        ((repeat refine JC.seq ?_); refine JC.cond rfl (fun _ => ?_) (fun h => by cases h))
        ((repeat refine JC.seq ?_); refine JC.exit ?_)
        (repeat (first | refine Ex.exit_then ?_ | refine Ex.exit_miss (by decide) ?_))
        refine Ex.exit_hit ?_
        ((repeat refine Ex.normal_block ?_); refine Ex.next ?_)
        ((repeat refine JC.seq ?_); refine JC.region ?_)
        refine JL.arith rfl (by unfold In64; omega) rfl ?_
        refine JL.pure rfl rfl ?_
        refine JL.nil ?_
        (repeat refine Ex.normal_block ?_)
        have hstep : atR (fl.take (k + 1)) c time = atStep c time sc9 ⟨fr, to, .slice fa wh.length fc, wh, low, high⟩ := by rw [atR_take h14, ← hsc9, hfe]
        have hnew : atStep c time sc9 ⟨fr, to, .slice fa wh.length fc, wh, low, high⟩ = sc9 := by
          unfold atStep; rw [if_neg hno]
        rw [hnew] at hstep
        refine Ex.again (k + 1) ⟨rfl, rfl, rfl, rfl, ?_, rfl, rfl, rfl, trivial⟩ ⟨h14, ?_⟩ (by omega)
        · rw [hstep]
          rfl
        · rw [hstep]
          exact H.drop 0
      · intro h25
        (try simp only [Bool.not_eq_true', Bool.not_eq_false', decide_eq_true_eq, decide_eq_false_iff_not] at h25)
        have hyes : fr ≤ time ∧ time ≤ to - 1 := by omega
        refine JL.want rfl rfl ?_
        refine JL.fieldAddr rfl Try.underlying218 rfl sh50 rfl ?_
        refine JL.want rfl rfl ?_
        refine JL.loadB 0 H rfl sh50 rfl rfl rfl ?_
        refine JL.want rfl rfl ?_
        refine JL.loadB 3 H rfl sh62 rfl rfl rfl ?_
        refine JL.want rfl rfl ?_
        refine JL.callP H fb48 rfl rfl (has_c _ wh c _ (hxs.grow H.below)) ?_
        intro w7 H _
        refine JL.want rfl rfl ?_
        refine JL.pure rfl rfl ?_
        refine JL.pure rfl rfl ?_
        refine JL.nil ?_
        ((repeat refine Ex.normal_block ?_); refine Ex.next ?_)
        ((repeat refine JC.seq ?_); refine JC.cond rfl ?_ ?_)
        · intro h31
          (try simp only [Bool.not_eq_true', Bool.not_eq_false', decide_eq_true_eq, decide_eq_false_iff_not] at h31)
          have hno : ¬((fr ≤ time ∧ time ≤ to - 1) ∧ hasB wh c = true) := by rintro ⟨_, h⟩; rw [h] at h31; simp at h31
          ((repeat refine JC.seq ?_); refine JC.exit ?_)
          (repeat (first | refine Ex.exit_then ?_ | refine Ex.exit_miss (by decide) ?_))
          refine Ex.exit_hit ?_
          ((repeat refine Ex.normal_block ?_); refine Ex.next ?_)
          ((repeat refine JC.seq ?_); refine JC.region ?_)
          refine JL.arith rfl (by unfold In64; omega) rfl ?_
          refine JL.pure rfl rfl ?_
          refine JL.nil ?_
          (repeat refine Ex.normal_block ?_)
          have hstep : atR (fl.take (k + 1)) c time = atStep c time sc9 ⟨fr, to, .slice fa wh.length fc, wh, low, high⟩ := by rw [atR_take h14, ← hsc9, hfe]
          have hnew : atStep c time sc9 ⟨fr, to, .slice fa wh.length fc, wh, low, high⟩ = sc9 := by
            unfold atStep; rw [if_neg hno]
          rw [hnew] at hstep
          refine Ex.again (k + 1) ⟨rfl, rfl, rfl, rfl, ?_, rfl, rfl, rfl, trivial⟩ ⟨h14, ?_⟩ (by omega)
          · rw [hstep]
            rfl
          · rw [hstep]
            exact H.drop 0
        · intro h31
          (try simp only [Bool.not_eq_true', Bool.not_eq_false', decide_eq_true_eq, decide_eq_false_iff_not] at h31)
          have hhas : hasB wh c = true := by simpa using h31
          ((repeat refine JC.seq ?_); refine JC.skip ?_)
          ((repeat refine Ex.normal_block ?_); refine Ex.next ?_)
          ((repeat refine JC.seq ?_); refine JC.region ?_)
          refine JL.pure rfl rfl ?_
          refine JL.pure rfl rfl ?_
          refine JL.nil ?_
          ((repeat refine Ex.normal_block ?_); refine Ex.next ?_)
          ((repeat refine JC.seq ?_); refine JC.cond rfl ?_ ?_)
          · intro h33
            (try simp only [Bool.not_eq_true', Bool.not_eq_false', decide_eq_true_eq, decide_eq_false_iff_not] at h33)
            have hkn : sc9.2.2 = false := by simpa using h33
            ((repeat refine JC.seq ?_); refine JC.drawE 15 [14] (fun p => bif Nat.beq p 0 then [blk b10 (.cells ⟨[.int .i64 fr, .int .i64 to, .slice fa wh.length fc, .int .i64 low.X, .int .i64 low.Y, .int .i64 high.X, .int .i64 high.Y]⟩ 218 (0, 0)), blk b7 (.cells ⟨[.int .i64 sc9.2.1.low, .int .i64 sc9.2.1.high]⟩ 358 (0, 0)), blk b6 (.cells ⟨[.int .i64 sc9.1.low, .int .i64 sc9.1.high]⟩ 358 (0, 0)), blk b4 (.cells ⟨[.int .i64 c.X, .int .i64 c.Y]⟩ 62 (0, 0))] else [blk b10 (.cells ⟨[.int .i64 fr, .int .i64 to, .slice fa wh.length fc, .int .i64 low.X, .int .i64 low.Y, .int .i64 high.X, .int .i64 high.Y]⟩ 218 (0, 0)), blk b7 (.cells ⟨[.int .i64 sc9.2.1.low, .int .i64 sc9.2.1.high]⟩ 358 (0, 0)), blk b6 (.cells ⟨[.int .i64 low.X, .int .i64 high.X]⟩ 358 (0, 0)), blk b4 (.cells ⟨[.int .i64 c.X, .int .i64 c.Y]⟩ 62 (0, 0))]) H rfl mixed (by kernel_rfl) rfl ?_)
            refine JD.fieldAddr rfl Try.underlying218 rfl sh23 rfl ?_
            refine JD.fieldAddr rfl Try.underlying23 rfl sh3 rfl ?_
            refine JD.loadB 0 rfl sh3 rfl rfl rfl ?_
            refine JD.fieldAddr rfl Try.underlying218 rfl sh23 rfl ?_
            refine JD.fieldAddr rfl Try.underlying23 rfl sh3 rfl ?_
            refine JD.loadB 0 rfl sh3 rfl rfl rfl ?_
            refine JD.build s358 rfl rfl ?_
            refine JD.fieldAddr rfl Try.underlying218 rfl sh23 rfl ?_
            refine JD.fieldAddr rfl Try.underlying23 rfl sh3 rfl ?_
            refine JD.loadK rfl sh3 (by
              rintro (_ | _ | p) w hp hK
              · exact LdAt.of_block (Own.get (i := 0) hK rfl).2 rfl
              · exact LdAt.of_block (Own.get (i := 0) hK rfl).2 rfl
              · simp at hp) rfl ?_
            refine JD.fieldAddr rfl Try.underlying218 rfl sh23 rfl ?_
            refine JD.fieldAddr rfl Try.underlying23 rfl sh3 rfl ?_
            refine JD.loadK rfl sh3 (by
              rintro (_ | _ | p) w hp hK
              · exact LdAt.of_block (Own.get (i := 0) hK rfl).2 rfl
              · exact LdAt.of_block (Own.get (i := 0) hK rfl).2 rfl
              · simp at hp) rfl ?_
            refine JD.build s358 rfl rfl ?_
            refine JD.storeB 0 2 (by rintro (_ | _ | p) hp h; rfl; exact absurd h (by decide); simp at hp) rfl rfl rfl sh358 rfl rfl rfl rfl rfl rfl ?_
            refine JD.nil ?_
            intro w8 H
            show JL _ _ _ _ _ _ _
            refine JL.storeB 1 H rfl rfl sh358 rfl rfl rfl rfl rfl ?_
            intro w9 H
            refine JL.pure rfl rfl ?_
            refine JL.nil ?_
            ((repeat refine Ex.normal_block ?_); refine Ex.next ?_)
            ((repeat refine JC.seq ?_); refine JC.exit ?_)
            (repeat (first | refine Ex.exit_then ?_ | refine Ex.exit_miss (by decide) ?_))
            refine Ex.exit_hit ?_
            ((repeat refine Ex.normal_block ?_); refine Ex.next ?_)
            ((repeat refine JC.seq ?_); refine JC.region ?_)
            refine JL.arith rfl (by unfold In64; omega) rfl ?_
            refine JL.pure rfl rfl ?_
            refine JL.nil ?_
            (repeat refine Ex.normal_block ?_)
            have hstep : atR (fl.take (k + 1)) c time = atStep c time sc9 ⟨fr, to, .slice fa wh.length fc, wh, low, high⟩ := by rw [atR_take h14, ← hsc9, hfe]
            have hnew : atStep c time sc9 ⟨fr, to, .slice fa wh.length fc, wh, low, high⟩ = (⟨low.X, high.X⟩, ⟨low.Y, high.Y⟩, true) := by
              unfold atStep; rw [if_pos ⟨hyes, hhas⟩, if_neg (by simp [hkn])]
            rw [hnew] at hstep
            refine Ex.again (k + 1) ⟨rfl, rfl, rfl, rfl, ?_, rfl, rfl, rfl, trivial⟩ ⟨h14, ?_⟩ (by omega)
            · rw [hstep]
              rfl
            · rw [hstep]
              exact H.drop 0
          · intro h33
            (try simp only [Bool.not_eq_true', Bool.not_eq_false', decide_eq_true_eq, decide_eq_false_iff_not] at h33)
            have hkn : sc9.2.2 = true := by simpa using h33
            ((repeat refine JC.seq ?_); refine JC.skip ?_)
            ((repeat refine Ex.normal_block ?_); refine Ex.next ?_)
            ((repeat refine JC.seq ?_); refine JC.region ?_)
            refine JL.fieldAddr rfl Try.underlying358 rfl sh3 rfl ?_
            refine JL.loadB 2 H rfl sh3 rfl rfl rfl ?_
            refine JL.fieldAddr rfl Try.underlying218 rfl sh23 rfl ?_
            refine JL.fieldAddr rfl Try.underlying23 rfl sh3 rfl ?_
            refine JL.loadB 0 H rfl sh3 rfl rfl rfl ?_
            refine JL.pure rfl rfl ?_
            refine JL.fieldAddr rfl Try.underlying358 rfl sh3 rfl ?_
            refine JL.loadB 2 H rfl sh3 rfl rfl rfl ?_
            refine JL.fieldAddr rfl Try.underlying218 rfl sh23 rfl ?_
            refine JL.fieldAddr rfl Try.underlying23 rfl sh3 rfl ?_
            refine JL.loadB 0 H rfl sh3 rfl rfl rfl ?_
            refine JL.pure rfl rfl ?_
            refine JL.build s358 rfl rfl ?_
            refine JL.storeB 2 H rfl rfl sh358 rfl rfl rfl rfl rfl ?_
            intro w10 H
            refine JL.nil ?_
            ((repeat refine Ex.normal_block ?_); refine Ex.next ?_)
            ((repeat refine JC.seq ?_); refine JC.region ?_)
            refine JL.fieldAddr rfl Try.underlying358 rfl sh3 rfl ?_
            refine JL.loadB 1 H rfl sh3 rfl rfl rfl ?_
            refine JL.fieldAddr rfl Try.underlying218 rfl sh23 rfl ?_
            refine JL.fieldAddr rfl Try.underlying23 rfl sh3 rfl ?_
            refine JL.loadB 0 H rfl sh3 rfl rfl rfl ?_
            refine JL.pure rfl rfl ?_
            refine JL.fieldAddr rfl Try.underlying358 rfl sh3 rfl ?_
            refine JL.loadB 1 H rfl sh3 rfl rfl rfl ?_
            refine JL.fieldAddr rfl Try.underlying218 rfl sh23 rfl ?_
            refine JL.fieldAddr rfl Try.underlying23 rfl sh3 rfl ?_
            refine JL.loadB 0 H rfl sh3 rfl rfl rfl ?_
            refine JL.pure rfl rfl ?_
            refine JL.build s358 rfl rfl ?_
            refine JL.storeB 1 H rfl rfl sh358 rfl rfl rfl rfl rfl ?_
            intro w11 H
            refine JL.nil ?_
            ((repeat refine Ex.normal_block ?_); refine Ex.next ?_)
            ((repeat refine JC.seq ?_); refine JC.region ?_)
            refine JL.arith rfl (by unfold In64; omega) rfl ?_
            refine JL.pure rfl rfl ?_
            refine JL.nil ?_
            (repeat refine Ex.normal_block ?_)
            have hstep : atR (fl.take (k + 1)) c time = atStep c time sc9 ⟨fr, to, .slice fa wh.length fc, wh, low, high⟩ := by rw [atR_take h14, ← hsc9, hfe]
            have hnew : atStep c time sc9 ⟨fr, to, .slice fa wh.length fc, wh, low, high⟩ = (⟨min sc9.1.low low.X, max sc9.1.high high.X⟩, ⟨min sc9.2.1.low low.Y, max sc9.2.1.high high.Y⟩, sc9.2.2) := by
              unfold atStep; rw [if_pos ⟨hyes, hhas⟩, if_pos hkn, hkn]
            rw [hnew] at hstep
            refine Ex.again (k + 1) ⟨rfl, rfl, rfl, rfl, ?_, rfl, rfl, rfl, trivial⟩ ⟨h14, ?_⟩ (by omega)
            · rw [hstep]
              rfl
            · rw [hstep]
              exact H.drop 0
    · intro h14
      (try simp only [Bool.not_eq_true', Bool.not_eq_false', decide_eq_true_eq, decide_eq_false_iff_not] at h14)
      have hkk : k = fl.length := by omega
      subst hkk
      rw [List.take_length] at hsc9
      ((repeat refine JC.seq ?_); refine JC.exit ?_)
      (repeat (first | refine Ex.exit_then ?_ | refine Ex.exit_miss (by decide) ?_))
      refine Ex.exit_hit ?_
      ((repeat refine Ex.normal_block ?_); refine Ex.next ?_)
      ((repeat refine JC.seq ?_); refine JC.drawE 5 [3, 4] (fun _ => [blk b7 (.cells ⟨[.int .i64 sc9.2.1.low, .int .i64 sc9.2.1.high]⟩ 358 (0, 0)), blk b6 (.cells ⟨[.int .i64 sc9.1.low, .int .i64 sc9.1.high]⟩ 358 (0, 0)), blk b4 (.cells ⟨[.int .i64 c.X, .int .i64 c.Y]⟩ 62 (0, 0))]) H rfl mixed (by kernel_rfl) rfl ?_)
      refine JD.loadK rfl sh358 (by
        rintro p w hp hK
        exact LdAt.of_block (Own.get (i := 1) hK rfl).2 rfl) rfl ?_
      refine JD.loadK rfl sh358 (by
        rintro p w hp hK
        exact LdAt.of_block (Own.get (i := 0) hK rfl).2 rfl) rfl ?_
      refine JD.pure rfl rfl ?_
      refine JD.storeB 0 1 (by rintro (_ | _ | _ | p) hp h; rfl; exact absurd h (by decide); exact absurd h (by decide); simp at hp) rfl rfl rfl sh358 rfl rfl rfl rfl rfl rfl ?_
      refine JD.storeB 1 0 (by rintro (_ | _ | _ | p) hp h; exact absurd h (by decide); rfl; exact absurd h (by decide); simp at hp) rfl rfl rfl sh358 rfl rfl rfl rfl rfl rfl ?_
      refine JD.nil ?_
      intro w12 H
      show JL _ _ _ _ _ _ _
      refine JL.pure rfl rfl ?_
      refine JL.nil ?_
      ((repeat refine Ex.normal_block ?_); refine Ex.next ?_)
      ((repeat refine JC.seq ?_); refine JC.ret ?_)
      (repeat (first | refine Ex.ret_then ?_ | refine Ex.ret_block ?_))
      refine Ex.ret3 rfl (.cell rfl sh358 (LdAt.of_block (H.get (i := 1) rfl).2 rfl)) (.cell rfl sh358 (LdAt.of_block (H.get (i := 0) rfl).2 rfl)) (.tmp rfl) ⟨?_, H.below⟩
      rw [← hsc9]
      rfl
end Go.J

namespace Go.J
open Go.RowKit Go.Proofs
set_option maxRecDepth 8000
set_option linter.unusedSimpArgs false
set_option linter.unusedVariables false
/-! drift: a sea, a patch -/
structure Patch where
  time : Int
  lv : Value
  left : List Run
  rv : Value
  right : List Run
  bv : Value
  beached : List Run
  off : Bool
def Patch.ev (p : Patch) : Value := .agg ⟨[.int .i64 p.time, p.lv, p.rv, p.bv, .bool p.off]⟩
def Patch.is (w : World) (p : Patch) : Prop := SlR w p.lv p.left ∧ SlR w p.rv p.right ∧ SlR w p.bv p.beached
theorem ofD_c (t : Int) (la ra ba : Option Addr) (ln rn bn lc rc bc : Nat) (off : Bool) (w : World) :
    Pur Try.prog 202 #[.agg ⟨[.int .i64 t, .slice la ln lc, .slice ra rn rc, .slice ba bn bc, .bool off]⟩] w (.agg ⟨[.slice la ln lc, .slice ra rn rc, .slice ba bn bc]⟩) := by
  refine pur_J (args := [.agg ⟨[.int .i64 t, .slice la ln lc, .slice ra rn rc, .slice ba bn bc, .bool off]⟩]) Try.func202 rfl Try.ntmps202 rfl ?_
  have H := Own.start w
  ((repeat refine JC.seq ?_); refine JC.region ?_)
  refine JL.box H rfl rfl rfl ?_
  intro b1 w1 H
  refine JL.alloc H z292 rfl ?_
  intro b2 w2 H
  refine JL.nil ?_
  ((repeat refine Ex.normal_block ?_); refine Ex.next ?_)
  ((repeat refine JC.seq ?_); refine JC.region ?_)
  refine JL.fieldAddr rfl Try.underlying90 rfl sh50 rfl ?_
  refine JL.loadB 1 H rfl sh50 rfl rfl rfl ?_
  refine JL.fieldAddr rfl Try.underlying90 rfl sh50 rfl ?_
  refine JL.loadB 1 H rfl sh50 rfl rfl rfl ?_
  refine JL.fieldAddr rfl Try.underlying90 rfl sh50 rfl ?_
  refine JL.loadB 1 H rfl sh50 rfl rfl rfl ?_
  refine JL.buildA Try.underlying292 sh50 za292 rfl rfl ?_
  refine JL.storeB 0 H rfl rfl sh292 rfl rfl rfl rfl rfl ?_
  intro w3 H
  refine JL.nil ?_
  ((repeat refine Ex.normal_block ?_); refine Ex.next ?_)
  ((repeat refine JC.seq ?_); refine JC.ret ?_)
  (repeat (first | refine Ex.ret_then ?_ | refine Ex.ret_block ?_))
  refine Ex.ret1 rfl (.cell rfl sh292 (LdAt.of_block (H.get (i := 0) rfl).2 rfl)) ⟨rfl, H.below⟩
theorem patchD_c (t : Int) (la ra ba : Option Addr) (ln rn bn lc rc bc : Nat) (off : Bool) (w : World) :
    Pur Try.prog 234 #[.agg ⟨[.slice la ln lc, .slice ra rn rc, .slice ba bn bc]⟩, .int .i64 t, .bool off] w (.agg ⟨[.int .i64 t, .slice la ln lc, .slice ra rn rc, .slice ba bn bc, .bool off]⟩) := by
  refine pur_J (args := [.agg ⟨[.slice la ln lc, .slice ra rn rc, .slice ba bn bc]⟩, .int .i64 t, .bool off]) Try.func234 rfl Try.ntmps234 rfl ?_
  have H := Own.start w
  ((repeat refine JC.seq ?_); refine JC.region ?_)
  refine JL.box H rfl rfl rfl ?_
  intro b3 w1 H
  refine JL.alloc H z90 rfl ?_
  intro b6 w2 H
  refine JL.nil ?_
  ((repeat refine Ex.normal_block ?_); refine Ex.next ?_)
  ((repeat refine JC.seq ?_); refine JC.region ?_)
  refine JL.pure rfl rfl ?_
  refine JL.indexA 0 rfl rfl Try.underlying292 sh50 rfl (by decide) rfl ?_
  refine JL.loadB 1 H rfl sh50 rfl rfl rfl ?_
  refine JL.indexA 1 rfl rfl Try.underlying292 sh50 rfl (by decide) rfl ?_
  refine JL.loadB 1 H rfl sh50 rfl rfl rfl ?_
  refine JL.indexA 2 rfl rfl Try.underlying292 sh50 rfl (by decide) rfl ?_
  refine JL.loadB 1 H rfl sh50 rfl rfl rfl ?_
  refine JL.pure rfl rfl ?_
  refine JL.build s90 rfl rfl ?_
  refine JL.storeB 0 H rfl rfl sh90 rfl rfl rfl rfl rfl ?_
  intro w3 H
  refine JL.nil ?_
  ((repeat refine Ex.normal_block ?_); refine Ex.next ?_)
  ((repeat refine JC.seq ?_); refine JC.ret ?_)
  (repeat (first | refine Ex.ret_then ?_ | refine Ex.ret_block ?_))
  refine Ex.ret1 rfl (.cell rfl sh90 (LdAt.of_block (H.get (i := 0) rfl).2 rfl)) ⟨rfl, H.below⟩
/-- a sea: a grid, flows, a drifter -/
def seaEv (g : Grid) (lv cv wv : Value) (d : Drifter) : Value := .agg ⟨[.int .i64 g.W, .int .i64 g.H, .int .i64 g.S, lv, cv, wv, .int .i64 d.dl, .int .i64 d.dh, .int .i64 d.cl, .int .i64 d.ch, .bool d.jibes]⟩
def seaB (g : Grid) (cu wi : List Flow) (d : Drifter) (seconds : Int) : Bool := flowsB g cu wi && d.ok && decide (1 ≤ seconds ∧ seconds ≤ 43200)
theorem right148_c (g : Grid) (lv cv wv : Value) (cu wi : List Flow) (d : Drifter) (seconds : Int) (w : World) (hl : SlR w lv g.land) (hc : FlowsIs w cv cu) (hw : FlowsIs w wv wi) :
    Pur Try.prog 148 #[seaEv g lv cv wv d, .int .i64 seconds] w (.bool (seaB g cu wi d seconds)) := by
  obtain ⟨la, lc, rfl⟩ := hl.len
  obtain ⟨ca, cc, rfl⟩ := hc.1.len
  obtain ⟨wa, wc, rfl⟩ := hw.1.len
  refine pur_J (args := [seaEv g (.slice la g.land.length lc) (.slice ca cu.length cc) (.slice wa wi.length wc) d, .int .i64 seconds]) Try.func148 rfl Try.ntmps148 rfl ?_
  have H := Own.start w
  ((repeat refine JC.seq ?_); refine JC.region ?_)
  refine JL.box H rfl rfl rfl ?_
  intro b2 w1 H
  refine JL.pure rfl rfl ?_
  refine JL.nil ?_
  ((repeat refine Ex.normal_block ?_); refine Ex.next ?_)
  ((repeat refine JC.seq ?_); refine JC.region ?_)
  refine JL.fieldAddr rfl Try.underlying220 rfl sh52 rfl ?_
  refine JL.loadB 0 H rfl sh52 rfl rfl rfl ?_
  refine JL.fieldAddr rfl Try.underlying220 rfl sh84 rfl ?_
  refine JL.loadB 0 H rfl sh84 rfl rfl rfl ?_
  refine JL.callP H fb226 rfl rfl (checkFlows_c g _ _ _ cu wi _ (hl.grow H.below) (hc.grow H.below) (hw.grow H.below)) ?_
  intro w2 H _
  refine JL.pure rfl rfl ?_
  refine JL.pure rfl rfl ?_
  refine JL.cases 11 rfl ?_ ?_
  · intro h11
    (try simp only [Bool.not_eq_true', Bool.not_eq_false', decide_eq_true_eq, decide_eq_false_iff_not] at h11)
    refine JL.want rfl rfl ?_
    refine JL.fieldAddr rfl Try.underlying220 rfl sh86 rfl ?_
    refine JL.want rfl rfl ?_
    refine JL.loadB 0 H rfl sh86 rfl rfl rfl ?_
    refine JL.want rfl rfl ?_
    refine JL.callP H fb227 rfl rfl (drifter_c d _) ?_
    intro w3 H _
    refine JL.want rfl rfl ?_
    refine JL.pure rfl rfl ?_
    refine JL.pure rfl rfl ?_
    refine JL.pure rfl rfl ?_
    refine JL.cases 17 rfl ?_ ?_
    · intro h17
      (try simp only [Bool.not_eq_true', Bool.not_eq_false', decide_eq_true_eq, decide_eq_false_iff_not] at h17)
      refine JL.want rfl rfl ?_
      refine JL.pure rfl rfl ?_
      refine JL.want rfl rfl ?_
      refine JL.callP H fb204 rfl rfl (withinD_c _ _ _ _) ?_
      intro w4 H _
      refine JL.pure rfl rfl ?_
      refine JL.pure rfl rfl ?_
      refine JL.nil ?_
      ((repeat refine Ex.normal_block ?_); refine Ex.next ?_)
      ((repeat refine JC.seq ?_); refine JC.ret ?_)
      (repeat (first | refine Ex.ret_then ?_ | refine Ex.ret_block ?_))
      refine Ex.ret1 rfl (.tmp rfl) ⟨?_, H.below⟩
      unfold seaB
      cases hf : flowsB g cu wi <;> cases hd : d.ok <;> simp_all
    · intro h17
      (try simp only [Bool.not_eq_true', Bool.not_eq_false', decide_eq_true_eq, decide_eq_false_iff_not] at h17)
      refine JL.pass rfl rfl rfl rfl ?_
      refine JL.pass rfl rfl rfl rfl ?_
      refine JL.pure rfl rfl ?_
      refine JL.pure rfl rfl ?_
      refine JL.nil ?_
      ((repeat refine Ex.normal_block ?_); refine Ex.next ?_)
      ((repeat refine JC.seq ?_); refine JC.ret ?_)
      (repeat (first | refine Ex.ret_then ?_ | refine Ex.ret_block ?_))
      refine Ex.ret1 rfl (.tmp rfl) ⟨?_, H.below⟩
      unfold seaB
      cases hf : flowsB g cu wi <;> cases hd : d.ok <;> simp_all
  · intro h11
    (try simp only [Bool.not_eq_true', Bool.not_eq_false', decide_eq_true_eq, decide_eq_false_iff_not] at h11)
    refine JL.pass rfl rfl rfl rfl ?_
    refine JL.pass rfl rfl rfl rfl ?_
    refine JL.pass rfl rfl rfl rfl ?_
    refine JL.pass rfl rfl rfl rfl ?_
    refine JL.pure rfl rfl ?_
    refine JL.pure rfl rfl ?_
    refine JL.pass rfl rfl rfl rfl ?_
    refine JL.pass rfl rfl rfl rfl ?_
    refine JL.pure rfl rfl ?_
    refine JL.pure rfl rfl ?_
    refine JL.nil ?_
    ((repeat refine Ex.normal_block ?_); refine Ex.next ?_)
    ((repeat refine JC.seq ?_); refine JC.ret ?_)
    (repeat (first | refine Ex.ret_then ?_ | refine Ex.ret_block ?_))
    refine Ex.ret1 rfl (.tmp rfl) ⟨?_, H.below⟩
    unfold seaB
    cases hf : flowsB g cu wi <;> cases hd : d.ok <;> simp_all
end Go.J

namespace Go.J
open Go.RowKit Go.Proofs
set_option maxRecDepth 8000
set_option linter.unusedSimpArgs false
set_option linter.unusedVariables false
/-! drift: a push -/
theorem times_tame {a b : Bnd} {M N : Int} (ha : a.tame M) (hb : b.tame N) : (a.times b).tame (M * N) := by
  unfold Bnd.tame at ha hb
  have q1 := mul_bd2 ha.1.1 ha.1.2 hb.1.1 hb.1.2
  have q2 := mul_bd2 ha.1.1 ha.1.2 hb.2.1 hb.2.2
  have q3 := mul_bd2 ha.2.1 ha.2.2 hb.1.1 hb.1.2
  have q4 := mul_bd2 ha.2.1 ha.2.2 hb.2.1 hb.2.2
  unfold Bnd.times Bnd.tame
  simp only
  omega
theorem plus_tame {a b : Bnd} {M N : Int} (ha : a.tame M) (hb : b.tame N) : (a.plus b).tame (M + N) := by
  unfold Bnd.tame at *; unfold Bnd.plus; simp only; omega
theorem minus_tame {a b : Bnd} {M N : Int} (ha : a.tame M) (hb : b.tame N) : (a.minus b).tame (M + N) := by
  unfold Bnd.tame at *; unfold Bnd.minus; simp only; omega
theorem tame_mono {a : Bnd} {M N : Int} (ha : a.tame M) (h : M ≤ N) : a.tame N := by unfold Bnd.tame at *; omega
theorem atR_tame {c : Cell} {time : Int} : ∀ (fl : List Flow) (s : Bnd × Bnd × Bool), (∀ f ∈ fl, ordB f.low.X f.high.X = true ∧ ordB f.low.Y f.high.Y = true) → s.1.tame 100000 → s.2.1.tame 100000 →
    (fl.foldl (atStep c time) s).1.tame 100000 ∧ (fl.foldl (atStep c time) s).2.1.tame 100000 := by
  intro fl
  induction fl with
  | nil => intro s _ h1 h2; exact ⟨h1, h2⟩
  | cons f fl ih =>
    intro s hf h1 h2
    obtain ⟨o1, o2⟩ := hf f List.mem_cons_self
    unfold ordB at o1 o2
    simp only [Bool.and_eq_true, decide_eq_true_eq] at o1 o2
    rw [List.foldl_cons]
    have hs : (atStep c time s f).1.tame 100000 ∧ (atStep c time s f).2.1.tame 100000 := by
      unfold atStep
      unfold Bnd.tame at *
      split
      · split <;> simp only <;> omega
      · exact ⟨h1, h2⟩
    exact ih _ (fun x hx => hf x (List.mem_cons_of_mem _ hx)) hs.1 hs.2
def xyR (u v a b : Bnd) (d : Drifter) (side : Int) : Bnd × Bnd :=
  (if side = 0 then ((u.times ⟨1000, 1000⟩).plus (a.times ⟨d.dl, d.dh⟩)).minus (b.times ⟨d.cl, d.ch⟩) else ((u.times ⟨1000, 1000⟩).plus (a.times ⟨d.dl, d.dh⟩)).plus (b.times ⟨d.cl, d.ch⟩),
   if side = 0 then ((v.times ⟨1000, 1000⟩).plus (b.times ⟨d.dl, d.dh⟩)).plus (a.times ⟨d.cl, d.ch⟩) else ((v.times ⟨1000, 1000⟩).plus (b.times ⟨d.dl, d.dh⟩)).minus (a.times ⟨d.cl, d.ch⟩))
def pushOf (x y : Bnd) (sec : Int) : Push := ⟨⟨x.low * sec / 1000000, y.low * sec / 1000000⟩, ⟨-(-x.high * sec / 1000000), -(-y.high * sec / 1000000)⟩⟩
def pushR (cu wi : List Flow) (d : Drifter) (c : Cell) (side time sec : Int) : Push × Bool :=
  if (atR cu c time).2.2 && (atR wi c time).2.2 then (pushOf (xyR (atR cu c time).1 (atR cu c time).2.1 (atR wi c time).1 (atR wi c time).2.1 d side).1 (xyR (atR cu c time).1 (atR cu c time).2.1 (atR wi c time).1 (atR wi c time).2.1 d side).2 sec, true)
  else (⟨⟨0, 0⟩, ⟨0, 0⟩⟩, false)
theorem flow_facts {g : Grid} {fl : List Flow} (h : flowsB1 g fl = true) : (∀ f ∈ fl, 1 ≤ f.to ∧ f.to ≤ 1073741824) ∧ ∀ f ∈ fl, ordB f.low.X f.high.X = true ∧ ordB f.low.Y f.high.Y = true := by
  unfold flowsB1 at h
  simp only [Bool.and_eq_true, decide_eq_true_eq, List.all_eq_true] at h
  constructor
  · intro f hf
    have := h.2 f hf
    unfold flowB at this
    simp only [Bool.and_eq_true, decide_eq_true_eq] at this
    exact this.1.1.1.1
  · intro f hf
    have := h.2 f hf
    unfold flowB at this
    simp only [Bool.and_eq_true, decide_eq_true_eq] at this
    exact ⟨this.1.1.2, this.1.2⟩
end Go.J

namespace Go.J
open Go.RowKit Go.Proofs
set_option maxRecDepth 8000
set_option linter.unusedSimpArgs false
set_option linter.unusedVariables false
set_option maxHeartbeats 800000 in
theorem push205_c (g : Grid) (lv cv wv : Value) (cu wi : List Flow) (d : Drifter) (c : Cell) (side time sec : Int) (w : World) (hl : SlR w lv g.land) (hc : FlowsIs w cv cu) (hw : FlowsIs w wv wi) (hs : seaB g cu wi d sec = true) :
    Pur Try.prog 205 #[seaEv g lv cv wv d, c.ev, .int .i64 side, .int .i64 time, .int .i64 sec] w (.tuple #[(pushR cu wi d c side time sec).1.ev, .bool (pushR cu wi d c side time sec).2]) := by
  obtain ⟨la, lc, rfl⟩ := hl.len
  obtain ⟨ca, cc, rfl⟩ := hc.1.len
  obtain ⟨wa, wc, rfl⟩ := hw.1.len
  unfold seaB flowsB at hs
  simp only [Bool.and_eq_true, decide_eq_true_eq] at hs
  obtain ⟨⟨⟨⟨hgok, hf1⟩, hf2⟩, hdo⟩, hsec⟩ := hs
  have hdo' := hdo
  unfold Drifter.ok at hdo'
  simp only [Bool.and_eq_true, decide_eq_true_eq] at hdo'
  obtain ⟨t1, o1⟩ := flow_facts hf1
  obtain ⟨t2, o2⟩ := flow_facts hf2
  have k0 : Bnd.tame ⟨0, 0⟩ 100000 := by unfold Bnd.tame; simp
  have kA := atR_tame (c := c) (time := time) cu (⟨0, 0⟩, ⟨0, 0⟩, false) o1 k0 k0
  have kB := atR_tame (c := c) (time := time) wi (⟨0, 0⟩, ⟨0, 0⟩, false) o2 k0 k0
  have cA : ∀ w1, Below w.heap.size w w1 → Pur Try.prog 268 #[.slice ca cu.length cc, c.ev, .int .i64 time] w1 (.tuple #[(atR cu c time).1.ev, (atR cu c time).2.1.ev, .bool (atR cu c time).2.2]) := fun w1 h => at_c _ cu c time w1 (hc.grow h) t1
  have cB : ∀ w1, Below w.heap.size w w1 → Pur Try.prog 268 #[.slice wa wi.length wc, c.ev, .int .i64 time] w1 (.tuple #[(atR wi c time).1.ev, (atR wi c time).2.1.ev, .bool (atR wi c time).2.2]) := fun w1 h => at_c _ wi c time w1 (hw.grow h) t2
  have hR : pushR cu wi d c side time sec = pushR cu wi d c side time sec := rfl
  conv at hR => rhs; unfold pushR
  change (atR cu c time).1.tame 100000 ∧ (atR cu c time).2.1.tame 100000 at kA
  change (atR wi c time).1.tame 100000 ∧ (atR wi c time).2.1.tame 100000 at kB
  generalize atR cu c time = A at *
  generalize atR wi c time = B at *
  generalize pushR cu wi d c side time sec = R at *
  obtain ⟨u, v, kn1⟩ := A
  obtain ⟨a, b, kn2⟩ := B
  simp only at kA kB cA cB hR
  have kth : Bnd.tame ⟨1000, 1000⟩ 1000 := by unfold Bnd.tame; simp
  have kdn : Bnd.tame ⟨d.dl, d.dh⟩ 1000 := by unfold Bnd.tame; simp only; omega
  have kcr : Bnd.tame ⟨d.cl, d.ch⟩ 1000 := by unfold Bnd.tame; simp only; omega
  refine pur_J (args := [seaEv g (.slice la g.land.length lc) (.slice ca cu.length cc) (.slice wa wi.length wc) d, c.ev, .int .i64 side, .int .i64 time, .int .i64 sec]) Try.func205 rfl Try.ntmps205 rfl ?_
  have H := Own.start w
  ((repeat refine JC.seq ?_); refine JC.region ?_)
  refine JL.box H rfl rfl rfl ?_
  intro b5 w1 H
  refine JL.box H rfl rfl rfl ?_
  intro b6 w2 H
  refine JL.alloc H z54 rfl ?_
  intro b10 w3 H
  refine JL.pure rfl rfl ?_
  refine JL.nil ?_
  ((repeat refine Ex.normal_block ?_); refine Ex.next ?_)
  ((repeat refine JC.seq ?_); refine JC.region ?_)
  refine JL.fieldAddr rfl Try.underlying220 rfl sh84 rfl ?_
  refine JL.fieldAddr rfl Try.underlying84 rfl sh82 rfl ?_
  refine JL.loadB 2 H rfl sh82 rfl rfl rfl ?_
  refine JL.loadB 1 H rfl sh62 rfl rfl rfl ?_
  refine JL.pure rfl rfl ?_
  refine JL.callP H fb268 rfl rfl (cA _ H.below) ?_
  intro w4 H _
  refine JL.pure rfl rfl ?_
  refine JL.pure rfl rfl ?_
  refine JL.pure rfl rfl ?_
  refine JL.pure rfl rfl ?_
  refine JL.alloc H z358 rfl ?_
  intro b12 w5 H
  refine JL.alloc H z358 rfl ?_
  intro b13 w6 H
  refine JL.storeB 1 H rfl rfl sh358 rfl rfl rfl rfl rfl ?_
  intro w7 H
  refine JL.storeB 0 H rfl rfl sh358 rfl rfl rfl rfl rfl ?_
  intro w8 H
  refine JL.pure rfl rfl ?_
  refine JL.nil ?_
  ((repeat refine Ex.normal_block ?_); refine Ex.next ?_)
  ((repeat refine JC.seq ?_); refine JC.region ?_)
  refine JL.fieldAddr rfl Try.underlying220 rfl sh84 rfl ?_
  refine JL.fieldAddr rfl Try.underlying84 rfl sh82 rfl ?_
  refine JL.loadB 4 H rfl sh82 rfl rfl rfl ?_
  refine JL.loadB 3 H rfl sh62 rfl rfl rfl ?_
  refine JL.pure rfl rfl ?_
  refine JL.callP H fb268 rfl rfl (cB _ H.below) ?_
  intro w9 H _
  refine JL.pure rfl rfl ?_
  refine JL.pure rfl rfl ?_
  refine JL.pure rfl rfl ?_
  refine JL.pure rfl rfl ?_
  refine JL.alloc H z358 rfl ?_
  intro b15 w10 H
  refine JL.alloc H z358 rfl ?_
  intro b16 w11 H
  refine JL.storeB 1 H rfl rfl sh358 rfl rfl rfl rfl rfl ?_
  intro w12 H
  refine JL.storeB 0 H rfl rfl sh358 rfl rfl rfl rfl rfl ?_
  intro w13 H
  refine JL.pure rfl rfl ?_
  refine JL.nil ?_
  ((repeat refine Ex.normal_block ?_); refine Ex.next ?_)
  ((repeat refine JC.seq ?_); refine JC.region ?_)
  refine JL.pure rfl rfl ?_
  refine JL.pure rfl rfl ?_
  refine JL.pure rfl rfl ?_
  refine JL.cases 45 rfl ?_ ?_
  · intro h45
    (try simp only [Bool.not_eq_true', Bool.not_eq_false', decide_eq_true_eq, decide_eq_false_iff_not] at h45)
    refine JL.pass rfl rfl rfl rfl ?_
    refine JL.pass rfl rfl rfl rfl ?_
    refine JL.pure rfl rfl ?_
    refine JL.nil ?_
    ((repeat refine Ex.normal_block ?_); refine Ex.next ?_)
    ((repeat refine JC.seq ?_); refine JC.cond rfl (fun _ => ?_) (fun h => by cases h))
    ((repeat refine JC.seq ?_); refine JC.region ?_)
    refine JL.build s54 rfl rfl ?_
    refine JL.storeB 4 H rfl rfl sh54 rfl rfl rfl rfl rfl ?_
    intro w14 H
    refine JL.pure rfl rfl ?_
    refine JL.nil ?_
    ((repeat refine Ex.normal_block ?_); refine Ex.next ?_)
    ((repeat refine JC.seq ?_); refine JC.ret ?_)
    (repeat (first | refine Ex.ret_then ?_ | refine Ex.ret_block ?_))
    refine Ex.ret2 rfl (.cell rfl sh54 (LdAt.of_block (H.get (i := 4) rfl).2 rfl)) (.tmp rfl) ⟨?_, H.below⟩
    have hk : (kn1 && kn2) = false := by
      first
        | (rw [show kn1 = false by simpa using h45]; rfl)
        | (rw [show kn2 = false by simpa using h48]; cases kn1 <;> rfl)
    rw [hk] at hR
    rw [hR]
    rfl
  · intro h45
    (try simp only [Bool.not_eq_true', Bool.not_eq_false', decide_eq_true_eq, decide_eq_false_iff_not] at h45)
    refine JL.want rfl rfl ?_
    refine JL.pure rfl rfl ?_
    refine JL.want rfl rfl ?_
    refine JL.pure rfl rfl ?_
    refine JL.pure rfl rfl ?_
    refine JL.nil ?_
    ((repeat refine Ex.normal_block ?_); refine Ex.next ?_)
    ((repeat refine JC.seq ?_); refine JC.cond rfl ?_ ?_)
    · intro h48
      (try simp only [Bool.not_eq_true', Bool.not_eq_false', decide_eq_true_eq, decide_eq_false_iff_not] at h48)
      ((repeat refine JC.seq ?_); refine JC.region ?_)
      refine JL.build s54 rfl rfl ?_
      refine JL.storeB 4 H rfl rfl sh54 rfl rfl rfl rfl rfl ?_
      intro w15 H
      refine JL.pure rfl rfl ?_
      refine JL.nil ?_
      ((repeat refine Ex.normal_block ?_); refine Ex.next ?_)
      ((repeat refine JC.seq ?_); refine JC.ret ?_)
      (repeat (first | refine Ex.ret_then ?_ | refine Ex.ret_block ?_))
      refine Ex.ret2 rfl (.cell rfl sh54 (LdAt.of_block (H.get (i := 4) rfl).2 rfl)) (.tmp rfl) ⟨?_, H.below⟩
      have hk : (kn1 && kn2) = false := by
        first
          | (rw [show kn1 = false by simpa using h45]; rfl)
          | (rw [show kn2 = false by simpa using h48]; cases kn1 <;> rfl)
      rw [hk] at hR
      rw [hR]
      rfl
    · intro h48
      (try simp only [Bool.not_eq_true', Bool.not_eq_false', decide_eq_true_eq, decide_eq_false_iff_not] at h48)
      ((repeat refine JC.seq ?_); refine JC.skip ?_)
      ((repeat refine Ex.normal_block ?_); refine Ex.next ?_)
      ((repeat refine JC.seq ?_); refine JC.draw 21 H mixed (by kernel_rfl) rfl ?_)
      refine JD.build s358 rfl rfl ?_
      refine JD.fieldAddr rfl Try.underlying220 rfl sh86 rfl ?_
      refine JD.fieldAddr rfl Try.underlying86 rfl sh3 rfl ?_
      refine JD.loadB 6 rfl sh3 rfl rfl rfl ?_
      refine JD.fieldAddr rfl Try.underlying220 rfl sh86 rfl ?_
      refine JD.fieldAddr rfl Try.underlying86 rfl sh3 rfl ?_
      refine JD.loadB 6 rfl sh3 rfl rfl rfl ?_
      refine JD.build s358 rfl rfl ?_
      refine JD.fieldAddr rfl Try.underlying220 rfl sh86 rfl ?_
      refine JD.fieldAddr rfl Try.underlying86 rfl sh3 rfl ?_
      refine JD.loadB 6 rfl sh3 rfl rfl rfl ?_
      refine JD.fieldAddr rfl Try.underlying220 rfl sh86 rfl ?_
      refine JD.fieldAddr rfl Try.underlying86 rfl sh3 rfl ?_
      refine JD.loadB 6 rfl sh3 rfl rfl rfl ?_
      refine JD.build s358 rfl rfl ?_
      refine JD.allocS 18 (.tmp 50) z358 rfl rfl ?_
      refine JD.allocS 19 (.tmp 57) z358 rfl rfl ?_
      refine JD.allocS 20 (.tmp 64) z358 rfl rfl ?_
      refine JD.storeF rfl rfl rfl sh358 rfl rfl rfl ?_
      refine JD.storeF rfl rfl rfl sh358 rfl rfl rfl ?_
      refine JD.storeF rfl rfl rfl sh358 rfl rfl rfl ?_
      refine JD.nil ?_
      intro w16 v20 v19 v18 H
      obtain ⟨b18, rfl, H⟩ := H.ptr (j := 0) rfl
      obtain ⟨b19, rfl, H⟩ := H.ptr (j := 1) rfl
      obtain ⟨b20, rfl, H⟩ := H.ptr (j := 2) rfl
      show JL _ _ _ _ _ _ _
      refine JL.nil ?_
      ((repeat refine Ex.normal_block ?_); refine Ex.next ?_)
      ((repeat refine JC.seq ?_); refine JC.draw 18 H mixed (by kernel_rfl) rfl ?_)
      refine JD.loadB 6 rfl sh358 rfl rfl rfl ?_
      refine JD.loadB 0 rfl sh358 rfl rfl rfl ?_
      refine JD.call fb269 rfl rfl (fun w hw => timesD_c u ⟨1000, 1000⟩ w (tame_mono kA.1 (by decide)) (tame_mono kth (by decide))) ?_
      refine JD.loadB 4 rfl sh358 rfl rfl rfl ?_
      refine JD.loadB 1 rfl sh358 rfl rfl rfl ?_
      refine JD.call fb269 rfl rfl (fun w hw => timesD_c a ⟨d.dl, d.dh⟩ w (tame_mono kB.1 (by decide)) (tame_mono kdn (by decide))) ?_
      refine JD.call fb270 rfl rfl (fun w hw => plusD_c (u.times ⟨1000, 1000⟩) (a.times ⟨d.dl, d.dh⟩) w (tame_mono (times_tame kA.1 kth) (by decide)) (tame_mono (times_tame kB.1 kdn) (by decide))) ?_
      refine JD.loadB 5 rfl sh358 rfl rfl rfl ?_
      refine JD.loadB 0 rfl sh358 rfl rfl rfl ?_
      refine JD.call fb269 rfl rfl (fun w hw => timesD_c v ⟨1000, 1000⟩ w (tame_mono kA.2 (by decide)) (tame_mono kth (by decide))) ?_
      refine JD.loadB 3 rfl sh358 rfl rfl rfl ?_
      refine JD.loadB 1 rfl sh358 rfl rfl rfl ?_
      refine JD.call fb269 rfl rfl (fun w hw => timesD_c b ⟨d.dl, d.dh⟩ w (tame_mono kB.2 (by decide)) (tame_mono kdn (by decide))) ?_
      refine JD.call fb270 rfl rfl (fun w hw => plusD_c (v.times ⟨1000, 1000⟩) (b.times ⟨d.dl, d.dh⟩) w (tame_mono (times_tame kA.2 kth) (by decide)) (tame_mono (times_tame kB.2 kdn) (by decide))) ?_
      refine JD.allocS 16 (.tmp 71) z358 rfl rfl ?_
      refine JD.allocS 17 (.tmp 78) z358 rfl rfl ?_
      refine JD.storeF rfl rfl rfl sh358 rfl rfl rfl ?_
      refine JD.storeF rfl rfl rfl sh358 rfl rfl rfl ?_
      refine JD.nil ?_
      intro w17 v22 v21 H
      obtain ⟨b21, rfl, H⟩ := H.ptr (j := 0) rfl
      obtain ⟨b22, rfl, H⟩ := H.ptr (j := 1) rfl
      show JL _ _ _ _ _ _ _
      refine JL.nil ?_
      ((repeat refine Ex.normal_block ?_); refine Ex.next ?_)
      ((repeat refine JC.seq ?_); refine JC.region ?_)
      refine JL.pure rfl rfl ?_
      refine JL.pure rfl rfl ?_
      refine JL.nil ?_
      ((repeat refine Ex.normal_block ?_); refine Ex.next ?_)
      ((repeat refine JC.seq ?_); refine JC.cond rfl ?_ ?_)
      · intro h80
        (try simp only [Bool.not_eq_true', Bool.not_eq_false', decide_eq_true_eq, decide_eq_false_iff_not] at h80)
        have hsd : side = 0 := by omega
        have bx : Bnd.tame (((u.times ⟨1000, 1000⟩).plus (a.times ⟨d.dl, d.dh⟩)).minus (b.times ⟨d.cl, d.ch⟩)) 300000000 := tame_mono (minus_tame (plus_tame (times_tame kA.1 kth) (times_tame kB.1 kdn)) (times_tame kB.2 kcr)) (by decide)
        have bY : Bnd.tame (((v.times ⟨1000, 1000⟩).plus (b.times ⟨d.dl, d.dh⟩)).plus (a.times ⟨d.cl, d.ch⟩)) 300000000 := tame_mono (plus_tame (plus_tame (times_tame kA.2 kth) (times_tame kB.2 kdn)) (times_tame kB.1 kcr)) (by decide)
        unfold Bnd.tame at bx bY
        have q1 := mul_bd2 (A := 300000000) (B := 43200) (a := (((u.times ⟨1000, 1000⟩).plus (a.times ⟨d.dl, d.dh⟩)).minus (b.times ⟨d.cl, d.ch⟩)).low) (b := sec) (by omega) (by omega) (by omega) (by omega)
        have q2 := mul_bd2 (A := 300000000) (B := 43200) (a := (((v.times ⟨1000, 1000⟩).plus (b.times ⟨d.dl, d.dh⟩)).plus (a.times ⟨d.cl, d.ch⟩)).low) (b := sec) (by omega) (by omega) (by omega) (by omega)
        have q3 := mul_bd2 (A := 300000000) (B := 43200) (a := -(((u.times ⟨1000, 1000⟩).plus (a.times ⟨d.dl, d.dh⟩)).minus (b.times ⟨d.cl, d.ch⟩)).high) (b := sec) (by omega) (by omega) (by omega) (by omega)
        have q4 := mul_bd2 (A := 300000000) (B := 43200) (a := -(((v.times ⟨1000, 1000⟩).plus (b.times ⟨d.dl, d.dh⟩)).plus (a.times ⟨d.cl, d.ch⟩)).high) (b := sec) (by omega) (by omega) (by omega) (by omega)
        ((repeat refine JC.seq ?_); refine JC.draw 10 H mixed (by kernel_rfl) rfl ?_)
        refine JD.loadB 0 rfl sh358 rfl rfl rfl ?_
        refine JD.loadB 5 rfl sh358 rfl rfl rfl ?_
        refine JD.loadB 4 rfl sh358 rfl rfl rfl ?_
        refine JD.call fb269 rfl rfl (fun w hw => timesD_c b ⟨d.cl, d.ch⟩ w (tame_mono kB.2 (by decide)) (tame_mono kcr (by decide))) ?_
        refine JD.call fb271 rfl rfl (fun w hw => minusD_c ((u.times ⟨1000, 1000⟩).plus (a.times ⟨d.dl, d.dh⟩)) (b.times ⟨d.cl, d.ch⟩) w (tame_mono (plus_tame (times_tame kA.1 kth) (times_tame kB.1 kdn)) (by decide)) (tame_mono (times_tame kB.2 kcr) (by decide))) ?_
        refine JD.loadB 1 rfl sh358 rfl rfl rfl ?_
        refine JD.loadB 6 rfl sh358 rfl rfl rfl ?_
        refine JD.loadB 4 rfl sh358 rfl rfl rfl ?_
        refine JD.call fb269 rfl rfl (fun w hw => timesD_c a ⟨d.cl, d.ch⟩ w (tame_mono kB.1 (by decide)) (tame_mono kcr (by decide))) ?_
        refine JD.call fb270 rfl rfl (fun w hw => plusD_c ((v.times ⟨1000, 1000⟩).plus (b.times ⟨d.dl, d.dh⟩)) (a.times ⟨d.cl, d.ch⟩) w (tame_mono (plus_tame (times_tame kA.2 kth) (times_tame kB.2 kdn)) (by decide)) (tame_mono (times_tame kB.1 kcr) (by decide))) ?_
        refine JD.nil ?_
        intro w18 H
        show JL _ _ _ _ _ _ _
        refine JL.storeB 0 H rfl rfl sh358 rfl rfl rfl rfl rfl ?_
        intro w19 H
        refine JL.storeB 1 H rfl rfl sh358 rfl rfl rfl rfl rfl ?_
        intro w20 H
        refine JL.nil ?_
        ((repeat refine Ex.normal_block ?_); refine Ex.next ?_)
        ((repeat refine JC.seq ?_); refine JC.draw 27 H mixed (by kernel_rfl) rfl ?_)
        refine JD.fieldAddr rfl Try.underlying358 rfl sh3 rfl ?_
        refine JD.loadB 0 rfl sh3 rfl rfl rfl ?_
        refine JD.pure rfl rfl ?_
        refine JD.arith rfl (by unfold In64; omega) rfl ?_
        refine JD.call fb272 rfl rfl (fun w hw => floorD_c _ w (by omega)) ?_
        refine JD.fieldAddr rfl Try.underlying358 rfl sh3 rfl ?_
        refine JD.loadB 1 rfl sh3 rfl rfl rfl ?_
        refine JD.pure rfl rfl ?_
        refine JD.arith rfl (by unfold In64; omega) rfl ?_
        refine JD.call fb272 rfl rfl (fun w hw => floorD_c _ w (by omega)) ?_
        refine JD.build s23 rfl rfl ?_
        refine JD.fieldAddr rfl Try.underlying358 rfl sh3 rfl ?_
        refine JD.loadB 0 rfl sh3 rfl rfl rfl ?_
        refine JD.neg rfl (by unfold In64; omega) rfl ?_
        refine JD.pure rfl rfl ?_
        refine JD.arith rfl (by unfold In64; omega) rfl ?_
        refine JD.call fb272 rfl rfl (fun w hw => floorD_c _ w (by omega)) ?_
        refine JD.neg rfl (by unfold In64; omega) rfl ?_
        refine JD.fieldAddr rfl Try.underlying358 rfl sh3 rfl ?_
        refine JD.loadB 1 rfl sh3 rfl rfl rfl ?_
        refine JD.neg rfl (by unfold In64; omega) rfl ?_
        refine JD.pure rfl rfl ?_
        refine JD.arith rfl (by unfold In64; omega) rfl ?_
        refine JD.call fb272 rfl rfl (fun w hw => floorD_c _ w (by omega)) ?_
        refine JD.neg rfl (by unfold In64; omega) rfl ?_
        refine JD.build s23 rfl rfl ?_
        refine JD.build s54 rfl rfl ?_
        refine JD.nil ?_
        intro w21 H
        show JL _ _ _ _ _ _ _
        refine JL.storeB 9 H rfl rfl sh54 rfl rfl rfl rfl rfl ?_
        intro w22 H
        refine JL.pure rfl rfl ?_
        refine JL.nil ?_
        ((repeat refine Ex.normal_block ?_); refine Ex.next ?_)
        ((repeat refine JC.seq ?_); refine JC.ret ?_)
        (repeat (first | refine Ex.ret_then ?_ | refine Ex.ret_block ?_))
        refine Ex.ret2 rfl (.cell rfl sh54 (LdAt.of_block (H.get (i := 9) rfl).2 rfl)) (.tmp rfl) ⟨?_, H.below⟩
        have hk : (kn1 && kn2) = true := by rw [show kn1 = true by simpa using h45, show kn2 = true by simpa using h48]; rfl
        rw [hk, if_pos rfl] at hR
        unfold xyR at hR
        rw [if_pos hsd, if_pos hsd] at hR
        rw [hR]
        rfl
      · intro h80
        (try simp only [Bool.not_eq_true', Bool.not_eq_false', decide_eq_true_eq, decide_eq_false_iff_not] at h80)
        have hsd : ¬ side = 0 := by omega
        have bx : Bnd.tame (((u.times ⟨1000, 1000⟩).plus (a.times ⟨d.dl, d.dh⟩)).plus (b.times ⟨d.cl, d.ch⟩)) 300000000 := tame_mono (plus_tame (plus_tame (times_tame kA.1 kth) (times_tame kB.1 kdn)) (times_tame kB.2 kcr)) (by decide)
        have bY : Bnd.tame (((v.times ⟨1000, 1000⟩).plus (b.times ⟨d.dl, d.dh⟩)).minus (a.times ⟨d.cl, d.ch⟩)) 300000000 := tame_mono (minus_tame (plus_tame (times_tame kA.2 kth) (times_tame kB.2 kdn)) (times_tame kB.1 kcr)) (by decide)
        unfold Bnd.tame at bx bY
        have q1 := mul_bd2 (A := 300000000) (B := 43200) (a := (((u.times ⟨1000, 1000⟩).plus (a.times ⟨d.dl, d.dh⟩)).plus (b.times ⟨d.cl, d.ch⟩)).low) (b := sec) (by omega) (by omega) (by omega) (by omega)
        have q2 := mul_bd2 (A := 300000000) (B := 43200) (a := (((v.times ⟨1000, 1000⟩).plus (b.times ⟨d.dl, d.dh⟩)).minus (a.times ⟨d.cl, d.ch⟩)).low) (b := sec) (by omega) (by omega) (by omega) (by omega)
        have q3 := mul_bd2 (A := 300000000) (B := 43200) (a := -(((u.times ⟨1000, 1000⟩).plus (a.times ⟨d.dl, d.dh⟩)).plus (b.times ⟨d.cl, d.ch⟩)).high) (b := sec) (by omega) (by omega) (by omega) (by omega)
        have q4 := mul_bd2 (A := 300000000) (B := 43200) (a := -(((v.times ⟨1000, 1000⟩).plus (b.times ⟨d.dl, d.dh⟩)).minus (a.times ⟨d.cl, d.ch⟩)).high) (b := sec) (by omega) (by omega) (by omega) (by omega)
        ((repeat refine JC.seq ?_); refine JC.draw 10 H mixed (by kernel_rfl) rfl ?_)
        refine JD.loadB 0 rfl sh358 rfl rfl rfl ?_
        refine JD.loadB 5 rfl sh358 rfl rfl rfl ?_
        refine JD.loadB 4 rfl sh358 rfl rfl rfl ?_
        refine JD.call fb269 rfl rfl (fun w hw => timesD_c b ⟨d.cl, d.ch⟩ w (tame_mono kB.2 (by decide)) (tame_mono kcr (by decide))) ?_
        refine JD.call fb270 rfl rfl (fun w hw => plusD_c ((u.times ⟨1000, 1000⟩).plus (a.times ⟨d.dl, d.dh⟩)) (b.times ⟨d.cl, d.ch⟩) w (tame_mono (plus_tame (times_tame kA.1 kth) (times_tame kB.1 kdn)) (by decide)) (tame_mono (times_tame kB.2 kcr) (by decide))) ?_
        refine JD.loadB 1 rfl sh358 rfl rfl rfl ?_
        refine JD.loadB 6 rfl sh358 rfl rfl rfl ?_
        refine JD.loadB 4 rfl sh358 rfl rfl rfl ?_
        refine JD.call fb269 rfl rfl (fun w hw => timesD_c a ⟨d.cl, d.ch⟩ w (tame_mono kB.1 (by decide)) (tame_mono kcr (by decide))) ?_
        refine JD.call fb271 rfl rfl (fun w hw => minusD_c ((v.times ⟨1000, 1000⟩).plus (b.times ⟨d.dl, d.dh⟩)) (a.times ⟨d.cl, d.ch⟩) w (tame_mono (plus_tame (times_tame kA.2 kth) (times_tame kB.2 kdn)) (by decide)) (tame_mono (times_tame kB.1 kcr) (by decide))) ?_
        refine JD.nil ?_
        intro w23 H
        show JL _ _ _ _ _ _ _
        refine JL.storeB 0 H rfl rfl sh358 rfl rfl rfl rfl rfl ?_
        intro w24 H
        refine JL.storeB 1 H rfl rfl sh358 rfl rfl rfl rfl rfl ?_
        intro w25 H
        refine JL.nil ?_
        ((repeat refine Ex.normal_block ?_); refine Ex.next ?_)
        ((repeat refine JC.seq ?_); refine JC.draw 27 H mixed (by kernel_rfl) rfl ?_)
        refine JD.fieldAddr rfl Try.underlying358 rfl sh3 rfl ?_
        refine JD.loadB 0 rfl sh3 rfl rfl rfl ?_
        refine JD.pure rfl rfl ?_
        refine JD.arith rfl (by unfold In64; omega) rfl ?_
        refine JD.call fb272 rfl rfl (fun w hw => floorD_c _ w (by omega)) ?_
        refine JD.fieldAddr rfl Try.underlying358 rfl sh3 rfl ?_
        refine JD.loadB 1 rfl sh3 rfl rfl rfl ?_
        refine JD.pure rfl rfl ?_
        refine JD.arith rfl (by unfold In64; omega) rfl ?_
        refine JD.call fb272 rfl rfl (fun w hw => floorD_c _ w (by omega)) ?_
        refine JD.build s23 rfl rfl ?_
        refine JD.fieldAddr rfl Try.underlying358 rfl sh3 rfl ?_
        refine JD.loadB 0 rfl sh3 rfl rfl rfl ?_
        refine JD.neg rfl (by unfold In64; omega) rfl ?_
        refine JD.pure rfl rfl ?_
        refine JD.arith rfl (by unfold In64; omega) rfl ?_
        refine JD.call fb272 rfl rfl (fun w hw => floorD_c _ w (by omega)) ?_
        refine JD.neg rfl (by unfold In64; omega) rfl ?_
        refine JD.fieldAddr rfl Try.underlying358 rfl sh3 rfl ?_
        refine JD.loadB 1 rfl sh3 rfl rfl rfl ?_
        refine JD.neg rfl (by unfold In64; omega) rfl ?_
        refine JD.pure rfl rfl ?_
        refine JD.arith rfl (by unfold In64; omega) rfl ?_
        refine JD.call fb272 rfl rfl (fun w hw => floorD_c _ w (by omega)) ?_
        refine JD.neg rfl (by unfold In64; omega) rfl ?_
        refine JD.build s23 rfl rfl ?_
        refine JD.build s54 rfl rfl ?_
        refine JD.nil ?_
        intro w26 H
        show JL _ _ _ _ _ _ _
        refine JL.storeB 9 H rfl rfl sh54 rfl rfl rfl rfl rfl ?_
        intro w27 H
        refine JL.pure rfl rfl ?_
        refine JL.nil ?_
        ((repeat refine Ex.normal_block ?_); refine Ex.next ?_)
        ((repeat refine JC.seq ?_); refine JC.ret ?_)
        (repeat (first | refine Ex.ret_then ?_ | refine Ex.ret_block ?_))
        refine Ex.ret2 rfl (.cell rfl sh54 (LdAt.of_block (H.get (i := 9) rfl).2 rfl)) (.tmp rfl) ⟨?_, H.below⟩
        have hk : (kn1 && kn2) = true := by rw [show kn1 = true by simpa using h45, show kn2 = true by simpa using h48]; rfl
        rw [hk, if_pos rfl] at hR
        unfold xyR at hR
        rw [if_neg hsd, if_neg hsd] at hR
        rw [hR]
        rfl
end Go.J

namespace Go.J
open Go.RowKit Go.Proofs
set_option maxRecDepth 8000
set_option linter.unusedSimpArgs false
set_option linter.unusedVariables false
/-! drift: is a patch valid? -/
def setB (g : Grid) (i : Nat) (r : List Run) : List Run × Int := if i = 2 then withoutR g r g.land else bothR g r g.land
def regB (g : Grid) (i : Nat) (r : List Run) : Bool := checkedB g [r] && decide ((setB g i r).2 = 0) && decide ((setB g i r).1.length = 0)
def patchB (g : Grid) (p : Patch) : Bool := g.ok && decide (0 ≤ p.time ∧ p.time ≤ 1073741824) && regB g 0 p.left && regB g 1 p.right && regB g 2 p.beached
theorem setB_len (g : Grid) (i : Nat) (r : List Run) : (setB g i r).1.length ≤ 8192 := by
  unfold setB; split
  · exact withoutR_len _ _ _
  · exact bothR_len _ _ _
theorem checkPatch_c (g : Grid) (lv : Value) (t : Int) (lf rf bf : Value) (l r b : List Run) (off : Bool) (w : World) (hl : SlR w lv g.land) (hcl : capOK lv) (h1 : SlR w lf l) (h2 : SlR w rf r) (h3 : SlR w bf b) (c1 : capOK lf) (c2 : capOK rf) (c3 : capOK bf) :
    Pur Try.prog 149 #[g.ev lv, Patch.ev ⟨t, lf, l, rf, r, bf, b, off⟩] w (.int .i64 (if patchB g ⟨t, lf, l, rf, r, bf, b, off⟩ then 0 else 2)) := by
  obtain ⟨la, lc, rfl⟩ := hl.len
  obtain ⟨a1, d1, rfl⟩ := h1.len
  obtain ⟨a2, d2, rfl⟩ := h2.len
  obtain ⟨a3, d3, rfl⟩ := h3.len
  obtain ⟨R, hR⟩ : ∃ R, R = patchB g ⟨t, .slice a1 l.length d1, l, .slice a2 r.length d2, r, .slice a3 b.length d3, b, off⟩ := ⟨_, rfl⟩
  rw [← hR]
  unfold patchB at hR
  simp only at hR
  refine pur_J (args := [g.ev (.slice la g.land.length lc), .agg ⟨[.int .i64 t, .slice a1 l.length d1, .slice a2 r.length d2, .slice a3 b.length d3, .bool off]⟩]) Try.func149 rfl Try.ntmps149 rfl ?_
  have H := Own.start w
  ((repeat refine JC.seq ?_); refine JC.region ?_)
  refine JL.box H rfl rfl rfl ?_
  intro b2 w1 H
  refine JL.box H rfl rfl rfl ?_
  intro b3 w2 H
  refine JL.pure rfl rfl ?_
  refine JL.nil ?_
  ((repeat refine Ex.normal_block ?_); refine Ex.next ?_)
  ((repeat refine JC.seq ?_); refine JC.region ?_)
  refine JL.loadB 1 H rfl sh52 rfl rfl rfl ?_
  refine JL.callP H fb141 rfl rfl (checkGrid_c g _ _ (hl.grow H.below)) ?_
  intro w3 H _
  refine JL.pure rfl rfl ?_
  refine JL.pure rfl rfl ?_
  refine JL.cases 13 rfl ?_ ?_
  · intro h13
    (try simp only [Bool.not_eq_true', Bool.not_eq_false', decide_eq_true_eq, decide_eq_false_iff_not] at h13)
    have hok : g.ok = false := by
      cases hc : g.ok with
      | false => rfl
      | true => exfalso; rw [hc] at h13; simp at h13
    refine JL.pass rfl rfl rfl rfl ?_
    refine JL.pass rfl rfl rfl rfl ?_
    refine JL.pass rfl rfl rfl rfl ?_
    refine JL.pass rfl rfl rfl rfl ?_
    refine JL.pure rfl rfl ?_
    refine JL.nil ?_
    ((repeat refine Ex.normal_block ?_); refine Ex.next ?_)
    ((repeat refine JC.seq ?_); refine JC.cond rfl (fun _ => ?_) (fun h => by cases h))
    ((repeat refine JC.seq ?_); refine JC.region ?_)
    refine JL.pure rfl rfl ?_
    refine JL.nil ?_
    ((repeat refine Ex.normal_block ?_); refine Ex.next ?_)
    ((repeat refine JC.seq ?_); refine JC.ret ?_)
    (repeat (first | refine Ex.ret_then ?_ | refine Ex.ret_block ?_))
    refine Ex.ret1 rfl (.tmp rfl) ⟨?_, H.below⟩
    have : R = false := by rw [hR, hok]; rfl
    rw [this]; rfl
  · intro h13
    (try simp only [Bool.not_eq_true', Bool.not_eq_false', decide_eq_true_eq, decide_eq_false_iff_not] at h13)
    have hok : g.ok = true := by
      cases hc : g.ok with
      | true => rfl
      | false => exfalso; rw [hc] at h13; simp at h13
    refine JL.want rfl rfl ?_
    refine JL.fieldAddr rfl Try.underlying90 rfl sh3 rfl ?_
    refine JL.want rfl rfl ?_
    refine JL.loadB 0 H rfl sh3 rfl rfl rfl ?_
    refine JL.want rfl rfl ?_
    refine JL.callP H fb204 rfl rfl (withinD_c _ _ _ _) ?_
    intro w4 H _
    refine JL.want rfl rfl ?_
    refine JL.pure rfl rfl ?_
    refine JL.pure rfl rfl ?_
    refine JL.nil ?_
    ((repeat refine Ex.normal_block ?_); refine Ex.next ?_)
    ((repeat refine JC.seq ?_); refine JC.cond rfl ?_ ?_)
    · intro h18
      (try simp only [Bool.not_eq_true', Bool.not_eq_false', decide_eq_true_eq, decide_eq_false_iff_not] at h18)
      have htm : ¬(0 ≤ t ∧ t ≤ 1073741824) := by simpa using h18
      ((repeat refine JC.seq ?_); refine JC.region ?_)
      refine JL.pure rfl rfl ?_
      refine JL.nil ?_
      ((repeat refine Ex.normal_block ?_); refine Ex.next ?_)
      ((repeat refine JC.seq ?_); refine JC.ret ?_)
      (repeat (first | refine Ex.ret_then ?_ | refine Ex.ret_block ?_))
      refine Ex.ret1 rfl (.tmp rfl) ⟨?_, H.below⟩
      have : R = false := by rw [hR, hok, decide_eq_false htm]; rfl
      rw [this]; rfl
    · intro h18
      (try simp only [Bool.not_eq_true', Bool.not_eq_false', decide_eq_true_eq, decide_eq_false_iff_not] at h18)
      have htm : 0 ≤ t ∧ t ≤ 1073741824 := by simpa using h18
      ((repeat refine JC.seq ?_); refine JC.skip ?_)
      ((repeat refine Ex.normal_block ?_); refine Ex.next ?_)
      ((repeat refine JC.seq ?_); refine JC.region ?_)
      refine JL.loadB 0 H rfl sh90 rfl rfl rfl ?_
      refine JL.callP H fb202 rfl rfl (ofD_c t a1 a2 a3 l.length r.length b.length d1 d2 d3 off _) ?_
      intro w5 H _
      refine JL.pure rfl rfl ?_
      refine JL.nil ?_
      ((repeat refine Ex.normal_block ?_); refine Ex.next ?_)
      ((repeat refine JC.seq ?_); refine JC.block ?_)
      ((repeat refine JC.seq ?_); refine JC.loop (ι := Nat) (fun i => [(2, .pointer (some ⟨b2, 0, none⟩)), (20, .agg ⟨[.slice a1 l.length d1, .slice a2 r.length d2, .slice a3 b.length d3]⟩), (21, .int .i64 i)])
        (fun i wr => i ≤ 3 ∧ ((0 < i → regB g 0 l = true) ∧ (1 < i → regB g 1 r = true) ∧ (2 < i → regB g 2 b = true)) ∧ Own w wr [blk b3 (.cells ⟨[.int .i64 t, .slice a1 l.length d1, .slice a2 r.length d2, .slice a3 b.length d3, .bool off]⟩ 90 (0, 0)), blk b2 (.cells ⟨[.int .i64 g.W, .int .i64 g.H, .int .i64 g.S, .slice la g.land.length lc]⟩ 52 (0, 0))]) (fun i => 3 - i) 0 ?_ ?_ ?_)
      · exact ⟨rfl, rfl, rfl, trivial⟩
      · exact ⟨Nat.zero_le _, ⟨by omega, by omega, by omega⟩, H⟩
      · rintro i wr ⟨hi, hg1, H⟩
        ((repeat refine JC.seq ?_); refine JC.region ?_)
        refine JL.pure rfl rfl ?_
        refine JL.nil ?_
        ((repeat refine Ex.normal_block ?_); refine Ex.next ?_)
        ((repeat refine JC.seq ?_); refine JC.cond rfl ?_ ?_)
        · intro h22
          (try simp only [Bool.not_eq_true', Bool.not_eq_false', decide_eq_true_eq, decide_eq_false_iff_not] at h22)
          have h22 : i < 3 := by omega
          obtain ⟨qa, q, qc, hq, hqv, hqs, hqc⟩ : ∃ qa q qc, ((i = 0 ∧ q = l) ∨ (i = 1 ∧ q = r) ∨ (i = 2 ∧ q = b)) ∧ [Value.slice a1 l.length d1, .slice a2 r.length d2, .slice a3 b.length d3][i]? = some (.slice qa q.length qc) ∧ SlR w (.slice qa q.length qc) q ∧ capOK (.slice qa q.length qc) := by
            rcases (show i = 0 ∨ i = 1 ∨ i = 2 by omega) with rfl | rfl | rfl
            · exact ⟨_, l, _, .inl ⟨rfl, rfl⟩, rfl, h1, c1⟩
            · exact ⟨_, r, _, .inr (.inl ⟨rfl, rfl⟩), rfl, h2, c2⟩
            · exact ⟨_, b, _, .inr (.inr ⟨rfl, rfl⟩), rfl, h3, c3⟩
          ((repeat refine JC.seq ?_); refine JC.skip ?_)
          ((repeat refine Ex.normal_block ?_); refine Ex.next ?_)
          ((repeat refine JC.seq ?_); refine JC.block ?_)
          ((repeat refine JC.seq ?_); refine JC.region ?_)
          refine JL.pure rfl rfl ?_
          refine JL.index1 i rfl rfl Try.underlying292 sh50 rfl h22 hqv rfl ?_
          refine JL.pure rfl rfl ?_
          refine JL.pure rfl rfl ?_
          refine JL.nil ?_
          ((repeat refine Ex.normal_block ?_); refine Ex.next ?_)
          ((repeat refine JC.seq ?_); refine JC.region ?_)
          refine JL.loadB 1 H rfl sh52 rfl rfl rfl ?_
          refine JL.pure rfl rfl ?_
          refine JL.callP H fb100 rfl rfl (checkRegion_c g _ _ q _ (hl.grow H.below) (hqs.grow H.below)) ?_
          intro w6 H _
          refine JL.pure rfl rfl ?_
          refine JL.nil ?_
          ((repeat refine Ex.normal_block ?_); refine Ex.next ?_)
          ((repeat refine JC.seq ?_); refine JC.cond rfl ?_ ?_)
          · intro h28
            (try simp only [Bool.not_eq_true', Bool.not_eq_false', decide_eq_true_eq, decide_eq_false_iff_not] at h28)
            have hck : checkedB g [q] = false := by
              cases hc : checkedB g [q] with
              | false => rfl
              | true => exfalso; rw [hc] at h28; simp at h28
            ((repeat refine JC.seq ?_); refine JC.region ?_)
            refine JL.pure rfl rfl ?_
            refine JL.nil ?_
            ((repeat refine Ex.normal_block ?_); refine Ex.next ?_)
            ((repeat refine JC.seq ?_); refine JC.ret ?_)
            (repeat (first | refine Ex.ret_then ?_ | refine Ex.ret_block ?_))
            refine Ex.ret1 rfl (.tmp rfl) ⟨?_, H.below⟩
            have hB : regB g i q = false := by
              unfold regB
              first
                | (rw [hck]; rfl)
                | (rw [decide_eq_false hS0]; simp)
                | (rw [hSe, decide_eq_false (p := Se.1.length = 0) (by omega)]; simp)
            have : R = false := by
              rw [hR]
              rcases hq with ⟨rfl, rfl⟩ | ⟨rfl, rfl⟩ | ⟨rfl, rfl⟩ <;> simp [hB]
            rw [this]
            rfl
          · intro h28
            (try simp only [Bool.not_eq_true', Bool.not_eq_false', decide_eq_true_eq, decide_eq_false_iff_not] at h28)
            have hck : checkedB g [q] = true := by
              cases hc : checkedB g [q] with
              | true => rfl
              | false => exfalso; rw [hc] at h28; simp at h28
            ((repeat refine JC.seq ?_); refine JC.skip ?_)
            ((repeat refine Ex.normal_block ?_); refine Ex.next ?_)
            ((repeat refine JC.seq ?_); refine JC.region ?_)
            refine JL.pure rfl rfl ?_
            refine JL.nil ?_
            ((repeat refine Ex.normal_block ?_); refine Ex.next ?_)
            ((repeat refine JC.seq ?_); refine JC.region ?_)
            refine JL.pure rfl rfl ?_
            refine JL.pure rfl rfl ?_
            refine JL.nil ?_
            ((repeat refine Ex.normal_block ?_); refine Ex.next ?_)
            ((repeat refine JC.seq ?_); refine JC.cond rfl ?_ ?_)
            · intro h30
              (try simp only [Bool.not_eq_true', Bool.not_eq_false', decide_eq_true_eq, decide_eq_false_iff_not] at h30)
              ((repeat refine JC.seq ?_); refine JC.region ?_)
              refine JL.pure rfl rfl ?_
              refine JL.nil ?_
              ((repeat refine Ex.normal_block ?_); refine Ex.next ?_)
              ((repeat refine JC.seq ?_); refine JC.region ?_)
              refine JL.pure rfl rfl ?_
              refine JL.loadB 1 H rfl sh52 rfl rfl rfl ?_
              refine JL.pure rfl rfl ?_
              refine JL.fieldAddr rfl Try.underlying52 rfl sh50 rfl ?_
              refine JL.loadB 1 H rfl sh50 rfl rfl rfl ?_
              refine JL.callv rfl fb57 rfl rfl (show Calls Try.prog 57 _ _ (fun e w' => ResR _ w' [] (setB g i q) e) from by unfold setB; rw [if_pos (by omega)]; exact without_c g _ (.slice qa q.length qc) (.slice la g.land.length lc) q g.land _ (hl.grow H.below) (hqs.grow H.below) (hl.grow H.below) hqc hcl) ?_
              rintro _ w7 ⟨zv, rfl, K⟩
              obtain ⟨za, zc, rfl⟩ := K.row_slice (j := 0) rfl
              have H := H.join K
              have hzl := setB_len g i q
              generalize hSe : setB g i q = Se at H hzl
              refine ⟨_, rfl, ?_⟩
              refine JL.pure rfl rfl ?_
              refine JL.pure rfl rfl ?_
              refine JL.pure rfl rfl ?_
              refine JL.pure rfl rfl ?_
              refine JL.pure rfl rfl ?_
              refine JL.nil ?_
              ((repeat refine Ex.normal_block ?_); refine Ex.next ?_)
              ((repeat refine JC.seq ?_); refine JC.region ?_)
              refine JL.pure rfl rfl ?_
              refine JL.pure rfl rfl ?_
              refine JL.pure rfl rfl ?_
              refine JL.cases 42 rfl ?_ ?_
              · intro h42
                (try simp only [Bool.not_eq_true', Bool.not_eq_false', decide_eq_true_eq, decide_eq_false_iff_not] at h42)
                have hS0 : ¬ (setB g i q).2 = 0 := by rw [hSe]; simpa using h42
                refine JL.pass rfl rfl rfl rfl ?_
                refine JL.pass rfl rfl rfl rfl ?_
                refine JL.pass rfl rfl rfl rfl ?_
                refine JL.pure rfl rfl ?_
                refine JL.nil ?_
                ((repeat refine Ex.normal_block ?_); refine Ex.next ?_)
                ((repeat refine JC.seq ?_); refine JC.cond rfl (fun _ => ?_) (fun h => by cases h))
                ((repeat refine JC.seq ?_); refine JC.region ?_)
                refine JL.pure rfl rfl ?_
                refine JL.nil ?_
                ((repeat refine Ex.normal_block ?_); refine Ex.next ?_)
                ((repeat refine JC.seq ?_); refine JC.ret ?_)
                (repeat (first | refine Ex.ret_then ?_ | refine Ex.ret_block ?_))
                refine Ex.ret1 rfl (.tmp rfl) ⟨?_, H.below⟩
                have hB : regB g i q = false := by
                  unfold regB
                  first
                    | (rw [hck]; rfl)
                    | (rw [decide_eq_false hS0]; simp)
                    | (rw [hSe, decide_eq_false (p := Se.1.length = 0) (by omega)]; simp)
                have : R = false := by
                  rw [hR]
                  rcases hq with ⟨rfl, rfl⟩ | ⟨rfl, rfl⟩ | ⟨rfl, rfl⟩ <;> simp [hB]
                rw [this]
                rfl
              · intro h42
                (try simp only [Bool.not_eq_true', Bool.not_eq_false', decide_eq_true_eq, decide_eq_false_iff_not] at h42)
                have hS0 : (setB g i q).2 = 0 := by rw [hSe]; simpa using h42
                refine JL.want rfl rfl ?_
                refine JL.pure rfl rfl ?_
                refine JL.want rfl rfl ?_
                refine JL.len rfl Try.underlying50 rfl ?_
                refine JL.want rfl rfl ?_
                refine JL.pure rfl rfl ?_
                refine JL.pure rfl rfl ?_
                refine JL.nil ?_
                ((repeat refine Ex.normal_block ?_); refine Ex.next ?_)
                ((repeat refine JC.seq ?_); refine JC.cond rfl ?_ ?_)
                · intro h46
                  (try simp only [Bool.not_eq_true', Bool.not_eq_false', decide_eq_true_eq, decide_eq_false_iff_not] at h46)
                  ((repeat refine JC.seq ?_); refine JC.region ?_)
                  refine JL.pure rfl rfl ?_
                  refine JL.nil ?_
                  ((repeat refine Ex.normal_block ?_); refine Ex.next ?_)
                  ((repeat refine JC.seq ?_); refine JC.ret ?_)
                  (repeat (first | refine Ex.ret_then ?_ | refine Ex.ret_block ?_))
                  refine Ex.ret1 rfl (.tmp rfl) ⟨?_, H.below⟩
                  have hB : regB g i q = false := by
                    unfold regB
                    first
                      | (rw [hck]; rfl)
                      | (rw [decide_eq_false hS0]; simp)
                      | (rw [hSe, decide_eq_false (p := Se.1.length = 0) (by omega)]; simp)
                  have : R = false := by
                    rw [hR]
                    rcases hq with ⟨rfl, rfl⟩ | ⟨rfl, rfl⟩ | ⟨rfl, rfl⟩ <;> simp [hB]
                  rw [this]
                  rfl
                · intro h46
                  (try simp only [Bool.not_eq_true', Bool.not_eq_false', decide_eq_true_eq, decide_eq_false_iff_not] at h46)
                  ((repeat refine JC.seq ?_); refine JC.skip ?_)
                  ((repeat refine Ex.normal_block ?_); refine Ex.next ?_)
                  ((repeat refine JC.seq ?_); refine JC.region ?_)
                  refine JL.arith rfl (by unfold In64; omega) rfl ?_
                  refine JL.pure rfl rfl ?_
                  refine JL.nil ?_
                  (repeat refine Ex.normal_block ?_)
                  have hB : regB g i q = true := by
                    unfold regB
                    rw [hck, decide_eq_true hS0, hSe, decide_eq_true (p := Se.1.length = 0) (by omega)]; rfl
                  refine Ex.again (i + 1) ⟨rfl, rfl, rfl, trivial⟩ ⟨by omega, ?_, H.drop 0⟩ (by omega)
                  rcases hq with ⟨rfl, rfl⟩ | ⟨rfl, rfl⟩ | ⟨rfl, rfl⟩
                  · exact ⟨fun _ => hB, by omega, by omega⟩
                  · exact ⟨fun _ => hg1.1 (by omega), fun _ => hB, by omega⟩
                  · exact ⟨fun _ => hg1.1 (by omega), fun _ => hg1.2.1 (by omega), fun _ => hB⟩
            · intro h30
              (try simp only [Bool.not_eq_true', Bool.not_eq_false', decide_eq_true_eq, decide_eq_false_iff_not] at h30)
              ((repeat refine JC.seq ?_); refine JC.skip ?_)
              ((repeat refine Ex.normal_block ?_); refine Ex.next ?_)
              ((repeat refine JC.seq ?_); refine JC.region ?_)
              refine JL.pure rfl rfl ?_
              refine JL.loadB 1 H rfl sh52 rfl rfl rfl ?_
              refine JL.pure rfl rfl ?_
              refine JL.fieldAddr rfl Try.underlying52 rfl sh50 rfl ?_
              refine JL.loadB 1 H rfl sh50 rfl rfl rfl ?_
              refine JL.callv rfl fb42 rfl rfl (show Calls Try.prog 42 _ _ (fun e w' => ResR _ w' [] (setB g i q) e) from by unfold setB; rw [if_neg (by omega)]; exact both2_c g _ (.slice qa q.length qc) (.slice la g.land.length lc) q g.land _ (hl.grow H.below) (hqs.grow H.below) (hl.grow H.below) hqc hcl) ?_
              rintro _ w8 ⟨zv, rfl, K⟩
              obtain ⟨za, zc, rfl⟩ := K.row_slice (j := 0) rfl
              have H := H.join K
              have hzl := setB_len g i q
              generalize hSe : setB g i q = Se at H hzl
              refine ⟨_, rfl, ?_⟩
              refine JL.pure rfl rfl ?_
              refine JL.pure rfl rfl ?_
              refine JL.pure rfl rfl ?_
              refine JL.pure rfl rfl ?_
              refine JL.pure rfl rfl ?_
              refine JL.nil ?_
              ((repeat refine Ex.normal_block ?_); refine Ex.next ?_)
              ((repeat refine JC.seq ?_); refine JC.region ?_)
              refine JL.pure rfl rfl ?_
              refine JL.pure rfl rfl ?_
              refine JL.pure rfl rfl ?_
              refine JL.cases 42 rfl ?_ ?_
              · intro h42
                (try simp only [Bool.not_eq_true', Bool.not_eq_false', decide_eq_true_eq, decide_eq_false_iff_not] at h42)
                have hS0 : ¬ (setB g i q).2 = 0 := by rw [hSe]; simpa using h42
                refine JL.pass rfl rfl rfl rfl ?_
                refine JL.pass rfl rfl rfl rfl ?_
                refine JL.pass rfl rfl rfl rfl ?_
                refine JL.pure rfl rfl ?_
                refine JL.nil ?_
                ((repeat refine Ex.normal_block ?_); refine Ex.next ?_)
                ((repeat refine JC.seq ?_); refine JC.cond rfl (fun _ => ?_) (fun h => by cases h))
                ((repeat refine JC.seq ?_); refine JC.region ?_)
                refine JL.pure rfl rfl ?_
                refine JL.nil ?_
                ((repeat refine Ex.normal_block ?_); refine Ex.next ?_)
                ((repeat refine JC.seq ?_); refine JC.ret ?_)
                (repeat (first | refine Ex.ret_then ?_ | refine Ex.ret_block ?_))
                refine Ex.ret1 rfl (.tmp rfl) ⟨?_, H.below⟩
                have hB : regB g i q = false := by
                  unfold regB
                  first
                    | (rw [hck]; rfl)
                    | (rw [decide_eq_false hS0]; simp)
                    | (rw [hSe, decide_eq_false (p := Se.1.length = 0) (by omega)]; simp)
                have : R = false := by
                  rw [hR]
                  rcases hq with ⟨rfl, rfl⟩ | ⟨rfl, rfl⟩ | ⟨rfl, rfl⟩ <;> simp [hB]
                rw [this]
                rfl
              · intro h42
                (try simp only [Bool.not_eq_true', Bool.not_eq_false', decide_eq_true_eq, decide_eq_false_iff_not] at h42)
                have hS0 : (setB g i q).2 = 0 := by rw [hSe]; simpa using h42
                refine JL.want rfl rfl ?_
                refine JL.pure rfl rfl ?_
                refine JL.want rfl rfl ?_
                refine JL.len rfl Try.underlying50 rfl ?_
                refine JL.want rfl rfl ?_
                refine JL.pure rfl rfl ?_
                refine JL.pure rfl rfl ?_
                refine JL.nil ?_
                ((repeat refine Ex.normal_block ?_); refine Ex.next ?_)
                ((repeat refine JC.seq ?_); refine JC.cond rfl ?_ ?_)
                · intro h46
                  (try simp only [Bool.not_eq_true', Bool.not_eq_false', decide_eq_true_eq, decide_eq_false_iff_not] at h46)
                  ((repeat refine JC.seq ?_); refine JC.region ?_)
                  refine JL.pure rfl rfl ?_
                  refine JL.nil ?_
                  ((repeat refine Ex.normal_block ?_); refine Ex.next ?_)
                  ((repeat refine JC.seq ?_); refine JC.ret ?_)
                  (repeat (first | refine Ex.ret_then ?_ | refine Ex.ret_block ?_))
                  refine Ex.ret1 rfl (.tmp rfl) ⟨?_, H.below⟩
                  have hB : regB g i q = false := by
                    unfold regB
                    first
                      | (rw [hck]; rfl)
                      | (rw [decide_eq_false hS0]; simp)
                      | (rw [hSe, decide_eq_false (p := Se.1.length = 0) (by omega)]; simp)
                  have : R = false := by
                    rw [hR]
                    rcases hq with ⟨rfl, rfl⟩ | ⟨rfl, rfl⟩ | ⟨rfl, rfl⟩ <;> simp [hB]
                  rw [this]
                  rfl
                · intro h46
                  (try simp only [Bool.not_eq_true', Bool.not_eq_false', decide_eq_true_eq, decide_eq_false_iff_not] at h46)
                  ((repeat refine JC.seq ?_); refine JC.skip ?_)
                  ((repeat refine Ex.normal_block ?_); refine Ex.next ?_)
                  ((repeat refine JC.seq ?_); refine JC.region ?_)
                  refine JL.arith rfl (by unfold In64; omega) rfl ?_
                  refine JL.pure rfl rfl ?_
                  refine JL.nil ?_
                  (repeat refine Ex.normal_block ?_)
                  have hB : regB g i q = true := by
                    unfold regB
                    rw [hck, decide_eq_true hS0, hSe, decide_eq_true (p := Se.1.length = 0) (by omega)]; rfl
                  refine Ex.again (i + 1) ⟨rfl, rfl, rfl, trivial⟩ ⟨by omega, ?_, H.drop 0⟩ (by omega)
                  rcases hq with ⟨rfl, rfl⟩ | ⟨rfl, rfl⟩ | ⟨rfl, rfl⟩
                  · exact ⟨fun _ => hB, by omega, by omega⟩
                  · exact ⟨fun _ => hg1.1 (by omega), fun _ => hB, by omega⟩
                  · exact ⟨fun _ => hg1.1 (by omega), fun _ => hg1.2.1 (by omega), fun _ => hB⟩
        · intro h22
          (try simp only [Bool.not_eq_true', Bool.not_eq_false', decide_eq_true_eq, decide_eq_false_iff_not] at h22)
          have hi3 : i = 3 := by omega
          subst hi3
          ((repeat refine JC.seq ?_); refine JC.exit ?_)
          (repeat (first | refine Ex.exit_then ?_ | refine Ex.exit_miss (by decide) ?_))
          refine Ex.exit_hit ?_
          ((repeat refine Ex.normal_block ?_); refine Ex.next ?_)
          ((repeat refine JC.seq ?_); refine JC.region ?_)
          refine JL.pure rfl rfl ?_
          refine JL.nil ?_
          ((repeat refine Ex.normal_block ?_); refine Ex.next ?_)
          ((repeat refine JC.seq ?_); refine JC.ret ?_)
          (repeat (first | refine Ex.ret_then ?_ | refine Ex.ret_block ?_))
          refine Ex.ret1 rfl (.tmp rfl) ⟨?_, H.below⟩
          have : R = true := by
            rw [hR, hok, decide_eq_true htm, hg1.1 (by omega), hg1.2.1 (by omega), hg1.2.2 (by omega)]
            rfl
          rw [this]
          rfl
end Go.J

namespace Go.J
open Go.RowKit Go.Proofs
set_option maxRecDepth 8000
set_option linter.unusedSimpArgs false
set_option linter.unusedVariables false
/-! drift: sets of cells -/
theorem setR_mset (m : List (Cell × Bool)) (k c : Cell) : setR (mset m k true) c = true ↔ setR m c = true ∨ c = k := by
  unfold setR
  rw [mget_mset]
  by_cases h : k = c
  · subst h; simp
  · rw [if_neg h]
    exact ⟨.inl, fun h' => h'.elim id fun e => absurd e.symm h⟩
def AllT (m : List (Cell × Bool)) : Prop := ∀ p ∈ m, p.2 = true
theorem AllT.mset {m : List (Cell × Bool)} (h : AllT m) (k : Cell) : AllT (mset m k true) := by
  induction m with
  | nil => intro p hp; simp [Go.J.mset] at hp; rw [hp]
  | cons q m ih =>
    intro p hp
    simp only [Go.J.mset] at hp
    have hm : AllT m := fun p hp => h p (List.mem_cons_of_mem _ hp)
    split at hp
    · rcases List.mem_cons.1 hp with rfl | hp
      · rfl
      · exact hm p hp
    · rcases List.mem_cons.1 hp with rfl | hp
      · exact h _ List.mem_cons_self
      · exact ih hm p hp
theorem setAdd_c {w0 : World} {L : List HP} {β : Nat} {m : List (Cell × Bool)} (g : Grid) (lv rv : Value) (r : List Run) (w : World) (H : Own w0 w (setM β m :: L)) (hl : ∀ w' m', Own w0 w' (setM β m' :: L) → SlR w' lv g.land) (hr : ∀ w' m', Own w0 w' (setM β m' :: L) → SlR w' rv r) :
    Calls Try.prog 203 #[.map (some β), g.ev lv, rv] w (fun e w' => e = .returned (.tuple #[]) ∧ ∃ m', Own w0 w' (setM β m' :: L) ∧ (∀ c, setR m' c = true ↔ setR m c = true ∨ c ∈ (cellsR g r).1) ∧ m'.length ≤ m.length + (cellsR g r).1.length ∧ (AllT m → AllT m')) := by
  obtain ⟨la, lc, rfl⟩ := (hl w m H).len
  obtain ⟨ra, rc, rfl⟩ := (hr w m H).len
  refine calls_J (args := [.map (some β), g.ev (.slice la g.land.length lc), .slice ra r.length rc]) Try.func203 rfl Try.ntmps203 rfl ?_
  ((repeat refine JC.seq ?_); refine JC.region ?_)
  refine JL.box H rfl rfl rfl ?_
  intro b4 w1 H
  refine JL.nil ?_
  ((repeat refine Ex.normal_block ?_); refine Ex.next ?_)
  ((repeat refine JC.seq ?_); refine JC.region ?_)
  refine JL.loadB 0 H rfl sh52 rfl rfl rfl ?_
  refine JL.pure rfl rfl ?_
  refine JL.call fb49 rfl rfl (cells49_c g _ (.slice ra r.length rc) r _ (hl _ _ (H.drop 0)) (hr _ _ (H.drop 0))) ?_
  have hbd := cellsR_bd g r
  generalize cellsR g r = C at *
  rintro _ w1 ⟨cv, rfl, K⟩
  obtain ⟨ca, cc, rfl⟩ := K.row_slice (j := 0) rfl
  have H := H.join K
  refine ⟨_, rfl, ?_⟩
  refine JL.pure rfl rfl ?_
  refine JL.pure rfl rfl ?_
  refine JL.pure rfl rfl ?_
  refine JL.pure rfl rfl ?_
  refine JL.pure rfl rfl ?_
  refine JL.nil ?_
  ((repeat refine Ex.normal_block ?_); refine Ex.next ?_)
  ((repeat refine JC.seq ?_); refine JC.region ?_)
  refine JL.pure rfl rfl ?_
  refine JL.len rfl Try.underlying68 rfl ?_
  refine JL.pure rfl rfl ?_
  refine JL.nil ?_
  ((repeat refine Ex.normal_block ?_); refine Ex.next ?_)
  ((repeat refine JC.seq ?_); refine JC.block ?_)
  ((repeat refine JC.seq ?_); refine JC.loop (ι := Nat × List (Cell × Bool)) (fun x => [(0, .map (some β)), (16, .slice ca C.1.length cc), (17, .int .i64 C.1.length), (18, .int .i64 x.1)])
    (fun x wr => x.1 ≤ C.1.length ∧ ((∀ c, setR x.2 c = true ↔ setR m c = true ∨ c ∈ C.1.take x.1) ∧ x.2.length ≤ m.length + x.1 ∧ (AllT m → AllT x.2)) ∧ Own w0 wr (cellRow (.slice ca C.1.length cc) C.1 :: blk b4 (.cells ⟨[.int .i64 g.W, .int .i64 g.H, .int .i64 g.S, .slice la g.land.length lc]⟩ 52 (0, 0)) :: setM β x.2 :: L)) (fun x => C.1.length - x.1) (0, m) ?_ ?_ ?_)
  · exact ⟨rfl, rfl, rfl, rfl, trivial⟩
  · exact ⟨Nat.zero_le _, ⟨fun c => by simp, Nat.le_refl _, id⟩, H⟩
  · rintro ⟨k, m2⟩ wr ⟨hk, ⟨hm, hml, hat⟩, H⟩
    simp only at hk hm hml hat H
    show JC _ _ _ _ [(0, .map (some β)), (16, .slice ca C.1.length cc), (17, .int .i64 C.1.length), (18, .int .i64 k)] _
    ((repeat refine JC.seq ?_); refine JC.region ?_)
    refine JL.pure rfl rfl ?_
    refine JL.nil ?_
    ((repeat refine Ex.normal_block ?_); refine Ex.next ?_)
    ((repeat refine JC.seq ?_); refine JC.cond rfl ?_ ?_)
    · intro h19
      (try simp only [Bool.not_eq_true', Bool.not_eq_false', decide_eq_true_eq, decide_eq_false_iff_not] at h19)
      have h19 : k < C.1.length := by omega
      have hx : C.1[k]? = some C.1[k] := by simp [h19]
      obtain ⟨g2, c2, hg2, _, _, _⟩ := H.rowAt (j := 0) (e := 62) (sz := 2) (enc := Cell.cs) (fun _ => rfl) rfl hx
      simp only [Value.slice.injEq] at hg2
      obtain ⟨rfl, _, rfl⟩ := hg2
      ((repeat refine JC.seq ?_); refine JC.skip ?_)
      ((repeat refine Ex.normal_block ?_); refine Ex.next ?_)
      ((repeat refine JC.seq ?_); refine JC.block ?_)
      ((repeat refine JC.seq ?_); refine JC.region ?_)
      refine JL.indexS k rfl rfl Try.underlying68 sh62 rfl h19 rfl ?_
      refine JL.load rfl sh62 (H.rowLd (j := 0) (e := 62) (sz := 2) (enc := Cell.cs) (fun _ => rfl) rfl hx) rfl ?_
      refine JL.alloc H z62 rfl ?_
      intro b9 w2 H
      refine JL.storeB 0 H rfl rfl sh62 rfl rfl rfl rfl rfl ?_
      intro w3 H
      refine JL.nil ?_
      ((repeat refine Ex.normal_block ?_); refine Ex.next ?_)
      ((repeat refine JC.seq ?_); refine JC.region ?_)
      refine JL.pure rfl rfl ?_
      refine JL.loadB 0 H rfl sh62 rfl rfl rfl ?_
      refine JL.mapUpdate 3 H C.1[k] true rfl rfl rfl Try.underlying290 keyCell rfl rfl ?_
      intro w4 H
      refine JL.nil ?_
      ((repeat refine Ex.normal_block ?_); refine Ex.next ?_)
      ((repeat refine JC.seq ?_); refine JC.region ?_)
      refine JL.arith rfl (by unfold In64; omega) rfl ?_
      refine JL.pure rfl rfl ?_
      refine JL.nil ?_
      (repeat refine Ex.normal_block ?_)
      refine Ex.again (k + 1, mset m2 C.1[k] true) ⟨rfl, rfl, rfl, rfl, trivial⟩ ⟨h19, ⟨fun c => ?_, by have := mset_len C.1[k] true m2; simp only; omega, fun h => (hat h).mset _⟩, H.drop 0⟩ (by simp only; omega)
      simp only
      rw [setR_mset, hm, List.take_succ_eq_append_getElem h19, List.mem_append, List.mem_singleton, or_assoc]
    · intro h19
      (try simp only [Bool.not_eq_true', Bool.not_eq_false', decide_eq_true_eq, decide_eq_false_iff_not] at h19)
      have hkk : k = C.1.length := by omega
      subst hkk
      rw [List.take_length] at hm
      ((repeat refine JC.seq ?_); refine JC.exit ?_)
      (repeat (first | refine Ex.exit_then ?_ | refine Ex.exit_miss (by decide) ?_))
      refine Ex.exit_hit ?_
      ((repeat refine Ex.normal_block ?_); refine Ex.end_ ?_)
      refine Ex.ret0 rfl ⟨rfl, m2, (H.drop 0).drop 0, hm, hml, hat⟩
end Go.J

namespace Go.J
open Go.RowKit Go.Proofs
set_option maxRecDepth 8000
set_option linter.unusedSimpArgs false
set_option linter.unusedVariables false
/-! drift: the waters -/
end Go.J

namespace Go.J
open Go.RowKit Go.Proofs
set_option maxRecDepth 8000
set_option linter.unusedSimpArgs false
set_option linter.unusedVariables false
/-! drift: does what a cell grows to meet a set? -/

end Go.J

namespace Go.J
open Go.RowKit Go.Proofs
set_option maxRecDepth 8000
set_option linter.unusedSimpArgs false
set_option linter.unusedVariables false
end Go.J

namespace Go.J
set_option linter.unusedSimpArgs false
set_option linter.unusedVariables false
/-! plain: the region of cells in any order -/
theorem regC_has {g : Grid} (hg : g.ok = true) {l : List Cell} (hl : ∀ c ∈ l, inG g c) (c : Cell) : hasB (regR (addAll g tab0 (l.map c2r))) c = true ↔ c ∈ l := by
  obtain ⟨hW, hH, _, _⟩ := Grid.ok_b hg
  have hgd := addAll_good (g := g) (l.map c2r) (tab0_good g.W)
  have hr : ∀ r ∈ l.map c2r, (0 ≤ r.Y ∧ r.Y < g.H) ∧ 0 ≤ r.From ∧ r.To ≤ g.W := by
    intro r hr
    obtain ⟨d, hd, rfl⟩ := List.mem_map.1 hr
    have := hl d hd
    unfold inG at this
    unfold c2r
    simp only
    omega
  rw [regR_has hgd]
  constructor
  · rintro ⟨k1, k2, k3⟩
    rcases (addAll_cov hH.2 _ _ _ tab0 0 (tab0_good g.W) hr).1 k3 with h | h
    · exact absurd h (tabCov0 _ _)
    · rw [hasB_c2r] at h
      rwa [show (⟨c.X, ((c.Y.toNat : Nat) : Int)⟩ : Cell) = c by cases c; simp only [Cell.mk.injEq, true_and]; simp only at k1; omega] at h
  · intro h
    have hc := hl c h
    unfold inG at hc
    refine ⟨by omega, by omega, (addAll_cov hH.2 _ _ _ tab0 0 (tab0_good g.W) hr).2 (.inr ?_)⟩
    rw [hasB_c2r, show (⟨c.X, ((c.Y.toNat : Nat) : Int)⟩ : Cell) = c by cases c; simp only [Cell.mk.injEq, true_and]; simp only at hc; omega]
    exact h
theorem regC_runs {g : Grid} (hg : g.ok = true) {l : List Cell} {S : Cell → Bool} (hl : ∀ c, c ∈ l ↔ S c = true) (hS : ∀ c, S c = true → inG g c) : regRes (addAll g tab0 (l.map c2r)) = runsR g S := by
  obtain ⟨hW, hH, _, _⟩ := Grid.ok_b hg
  have hin : ∀ c ∈ l, inG g c := fun c hc => hS c ((hl c).1 hc)
  exact regRes_runs (by omega) (by omega) (addAll_good _ (tab0_good g.W)) (addAll_low _ (tab0_low _)) S fun c => (regC_has hg hin c).trans ((hl c).trans ⟨fun h => ⟨hS c h, h⟩, fun h => h.2⟩)
theorem setR_key {m : List (Cell × Bool)} (hn : (m.map Prod.fst).Nodup) (ht : AllT m) (c : Cell) : (∃ b, (c, b) ∈ m) ↔ setR m c = true := by
  constructor
  · rintro ⟨b, hb⟩
    have := ht _ hb
    simp only at this
    subst this
    unfold setR
    rw [mget_of_mem hn hb]; rfl
  · intro h
    obtain ⟨⟨c', b⟩, hp, rfl⟩ := List.mem_map.1 (setR_mem h)
    exact ⟨b, hp⟩
end Go.J

namespace Go.J
set_option linter.unusedSimpArgs false
set_option linter.unusedVariables false
open Go.RowKit
open Go.ChangeMaps (setBlock)
/-! ## ranging over a map that is not ours: it is only read -/
section
variable {P : Program} {N : Sz} {ops : Array Oper} {Q : Exit → Act → World → Prop} {rest : List Oper} {fr : Fr} {w w0 : World} {L : List HP}
  {d : Option Tmp} {ty t kt et : TypeId} {pos : String} {af : Array Edge}
theorem JL.rangeR {mo : Operand} {β : Nat} {es : Array MapEntry} {clock : Nat} (H : Own w0 w L) (hb : w.heap[β]? = some (.map es clock)) (hm : fr.ev mo = some (.map (some β))) (hu : P.underlying t = some (.map kt et)) (hd : Fr.fits N d = true)
    (kk : ∀ r w', Own w0 w' (blk r (.mapIter (some β) clock #[] clock) :: L) → JL P N ops Q rest (fr.put d (.pointer (some ⟨r, 0, none⟩))) w') : JL P N ops Q (⟨d, .range t mo, ty, pos, af, none⟩ :: rest) fr w := by
  refine JL.val rfl hd (fun a Ha => ?_) (kk w.heap.size (w.alloc (.mapIter (some β) clock #[] clock)) (H.new _))
  simp only [execOp, Ha.eval hm]
  simp [run_range_map w t kt et β es clock hu hb]
theorem JL.nextR {it : Operand} {β r since c0 : Nat} {seen : Array Nat} {es : Array MapEntry} {clock : Nat} (i : Nat) (H : Own w0 w L) (hb : w.heap[β]? = some (.map es clock)) (hit : fr.ev it = some (.pointer (some ⟨r, 0, none⟩))) (hi : L[i]? = some (blk r (.mapIter (some β) since seen c0)))
    (hold : ∀ x ∈ es.toList, x.born < since) (hsc : since ≤ c0) (hd : Fr.fits N d = true)
    (kend : (leftOf es seen).size = 0 → JL P N ops Q rest (fr.put d (.tuple #[.bool false])) w)
    (kstep : ∀ e w', e ∈ (leftOf es seen).toList → Own w0 w' (L.set i (blk r (.mapIter (some β) since (seen.push e.born) clock))) → JL P N ops Q rest (fr.put d (.tuple #[.bool true, e.key, e.val])) w') :
    JL P N ops Q (⟨d, .next it false, ty, pos, af, none⟩ :: rest) fr w := by
  have hr := (H.get hi).2
  rcases run_next_at (P := P) w ty r β since c0 seen es clock hr hb hold hsc with ⟨h0, hrun⟩ | ⟨e, he, w1, hw1, hrun⟩
  · exact JL.val rfl hd (fun a Ha => by simp only [execOp, Ha.eval hit]; simp [hrun]) (kend h0)
  · have H1 : Own w0 w1 L := by
      rcases hw1 with rfl | rfl
      · exact H
      · exact H.drew
    have hr1 := (H1.get hi).2
    have hlt := (Array.getElem?_eq_some_iff.1 hr1).1
    have H2 : Own w0 (setBlock w1 r (.mapIter (some β) since (seen.push e.born) clock)) (L.set i (blk r (.mapIter (some β) since (seen.push e.born) clock))) :=
      H1.put hi _ rfl rfl rfl (by simp [setBlock]) (fun k hk _ => by simp [setBlock, Array.getElem?_setIfInBounds_ne (Ne.symm hk)]) (by simp [setBlock, hlt])
    exact JL.val rfl hd (fun a Ha => by simp only [execOp, Ha.eval hit]; simp [hrun]) (kstep e _ he H2)
theorem JL.entryR {it : Operand} {β r since : Nat} {seen : Array Nat} {es : Array MapEntry} {clock : Nat} {e : MapEntry} (i : Nat) (H : Own w0 w L) (hb : w.heap[β]? = some (.map es clock)) (hit : fr.ev it = some (.pointer (some ⟨r, 0, none⟩))) (hi : L[i]? = some (blk r (.mapIter (some β) since (seen.push e.born) clock)))
    (he : e ∈ es.toList) (hn : (es.toList.map (·.born)).Nodup) (hd : Fr.fits N d = true) (kk : JL P N ops Q rest (fr.put d (.tuple #[e.key, e.val])) w) : JL P N ops Q (⟨d, .entry it, ty, pos, af, none⟩ :: rest) fr w :=
  JL.val rfl hd (fun a Ha => by
    simp only [execOp, Ha.eval hit]
    simp [run_entry_at w r β since seen es clock e (H.get hi).2 hb he hn]) kk
end
end Go.J

namespace Go.J
open Go.RowKit Go.Proofs
set_option maxRecDepth 8000
set_option linter.unusedSimpArgs false
set_option linter.unusedVariables false
theorem hM_mem {es : Array MapEntry} {clock : Nat} {m : List (Cell × Bool)} (hM : MapIs Cell.ev Value.bool es clock m) {e : MapEntry} {c : Cell} {kk : Bool} (he : e ∈ es.toList) (hk : e.key = c.ev) (hv : e.val = Value.bool kk) : (c, kk) ∈ m := by
  have h : (e.key, e.val) ∈ es.toList.map (fun e => (e.key, e.val)) := List.mem_map.2 ⟨e, he, rfl⟩
  rw [hM.enc, hk, hv] at h
  obtain ⟨⟨c', b⟩, hp, h2⟩ := List.mem_map.1 h
  have : (c', b) = (c, kk) := by
    cases c; cases c'
    simpa [Cell.ev] using h2
  rw [← this]; exact hp
theorem setRegion_c (g : Grid) (lv : Value) (β β2 : Nat) (m m2 : List (Cell × Bool)) (wanted : Bool) (w : World) (hl : SlR w lv g.land) (hg : g.ok = true) (hm : MapAt w β m) (hm2 : MapAt w β2 m2) (ht : AllT m) (hin : ∀ c, setR m c = true → inG g c) (hlen : m.length ≤ 65536) :
    Calls Try.prog 238 #[.map (some β), g.ev lv, .map (some β2), .bool wanted] w (fun e w' => ResR w w' [] (runsR g (fun c => setR m c && (setR m2 c == wanted))) e) := by
  obtain ⟨la, lc, rfl⟩ := hl.len
  obtain ⟨es, clock, hM, hMb⟩ := id hm
  have hnd := hM.nodup
  have hbl : ∀ {w' : World}, Below w.heap.size w w' → w'.heap[β]? = some (.map es clock) := fun hB => by rw [hB.block _ hm.lt]; exact hMb
  refine calls_J (args := [.map (some β), g.ev (.slice la g.land.length lc), .map (some β2), .bool wanted]) Try.func238 rfl Try.ntmps238 rfl ?_
  have H := Own.start w
  ((repeat refine JC.seq ?_); refine JC.region ?_)
  refine JL.box H rfl rfl rfl ?_
  intro b5 w1 H
  refine JL.pure rfl rfl ?_
  refine JL.pure rfl rfl ?_
  refine JL.nil ?_
  ((repeat refine Ex.normal_block ?_); refine Ex.next ?_)
  ((repeat refine JC.seq ?_); refine JC.region ?_)
  refine JL.pure rfl rfl ?_
  refine JL.nil ?_
  ((repeat refine Ex.normal_block ?_); refine Ex.next ?_)
  ((repeat refine JC.seq ?_); refine JC.region ?_)
  refine JL.pure rfl rfl ?_
  refine JL.rangeR H (hbl H.below) rfl Try.underlying290 rfl ?_
  intro q w9 H
  have H := H.nilRow 62 2
  refine JL.nil ?_
  ((repeat refine Ex.normal_block ?_); refine Ex.next ?_)
  ((repeat refine JC.seq ?_); refine JC.block ?_)
  ((repeat refine JC.seq ?_); refine JC.loop (ι := List (Cell × Bool) × Array Nat × Nat × List Cell × Value) (fun x => [(2, .map (some β2)), (3, .bool wanted), (5, .pointer (some ⟨b5, 0, none⟩)), (13, .pointer (some ⟨q, 0, none⟩)), (10, x.2.2.2.2)])
    (fun x wr => ItIs Cell.ev Value.bool es x.2.1 x.1 ∧ clock ≤ x.2.2.1 ∧ ((∀ c, (c ∈ x.2.2.2.1 ∨ ((∃ b, (c, b) ∈ x.1) ∧ (setR m2 c == wanted) = true)) ↔ (setR m c && (setR m2 c == wanted)) = true) ∧ x.2.2.2.1.length + x.1.length ≤ m.length) ∧ Own w wr [cellRow x.2.2.2.2 x.2.2.2.1, blk q (.mapIter (some β) clock x.2.1 x.2.2.1), blk b5 (.cells ⟨[.int .i64 g.W, .int .i64 g.H, .int .i64 g.S, .slice la g.land.length lc]⟩ 52 (0, 0))]) (fun x => x.1.length) (m, #[], clock, [], .slice none 0 0) ?_ ?_ ?_)
  · exact ⟨rfl, rfl, rfl, rfl, rfl, trivial⟩
  · exact ⟨ItIs.start hM, Nat.le_refl _, ⟨fun c => by simp only [List.not_mem_nil, false_or]; rw [setR_key hnd ht, Bool.and_eq_true], by simp⟩, H⟩
  · rintro ⟨l, seen, c0, out, v⟩ wr ⟨hit, hc0, ⟨hout, hol⟩, H⟩
    simp only at hit hc0 hout hol H
    show JC _ _ _ _ [(2, .map (some β2)), (3, .bool wanted), (5, .pointer (some ⟨b5, 0, none⟩)), (13, .pointer (some ⟨q, 0, none⟩)), (10, v)] _
    ((repeat refine JC.seq ?_); refine JC.region ?_)
    refine JL.nextR 1 H (hbl H.below) rfl rfl hM.old hc0 rfl ?_ ?_
    · intro h0
      have hl0 := hit.ended h0
      subst hl0
      refine JL.pure rfl rfl ?_
      refine JL.nil ?_
      ((repeat refine Ex.normal_block ?_); refine Ex.next ?_)
      ((repeat refine JC.seq ?_); refine JC.cond rfl (fun h => by cases h) (fun _ => ?_))
      ((repeat refine JC.seq ?_); refine JC.exit ?_)
      (repeat (first | refine Ex.exit_then ?_ | refine Ex.exit_miss (by decide) ?_))
      refine Ex.exit_hit ?_
      ((repeat refine Ex.normal_block ?_); refine Ex.next ?_)
      ((repeat refine JC.seq ?_); refine JC.region ?_)
      refine JL.loadB 2 H rfl sh52 rfl rfl rfl ?_
      refine JL.pure rfl rfl ?_
      have hfin : ∀ c, c ∈ out ↔ (setR m c && (setR m2 c == wanted)) = true := fun c => by rw [← hout c]; simp
      refine JL.call fb99 rfl rfl (region99_c g _ _ out _ (hl.grow H.below) (H.rowSl (j := 0) (enc := Cell.cs) (fun _ => rfl) rfl (by omega)) hg (fun c hc => hin c (by have := (hfin c).1 hc; simp only [Bool.and_eq_true] at this; exact this.1)) (by omega)) ?_
      rw [regC_runs hg hfin (fun c hc => hin c (by simp only [Bool.and_eq_true] at hc; exact hc.1))]
      rintro _ w2 ⟨rv, rfl, K⟩
      have H := H.join K
      refine ⟨_, rfl, ?_⟩
      refine JL.pure rfl rfl ?_
      refine JL.pure rfl rfl ?_
      refine JL.pure rfl rfl ?_
      refine JL.pure rfl rfl ?_
      refine JL.nil ?_
      ((repeat refine Ex.normal_block ?_); refine Ex.next ?_)
      ((repeat refine JC.seq ?_); refine JC.ret ?_)
      (repeat (first | refine Ex.ret_then ?_ | refine Ex.ret_block ?_))
      refine Ex.ret2 rfl (.tmp rfl) (.tmp rfl) ⟨_, rfl, ((H.drop 1).drop 1).drop 1⟩
    · intro e w9 he H
      obtain ⟨hes, a, ⟨c, kk⟩, b, rfl, hke, hve, hit2⟩ := hit.step hM he
      simp only at hke hve
      rw [hke, hve]
      have hkk := ht _ (hM_mem hM hes hke hve)
      simp only at hkk
      subst hkk
      refine JL.pure rfl rfl ?_
      refine JL.nil ?_
      ((repeat refine Ex.normal_block ?_); refine Ex.next ?_)
      ((repeat refine JC.seq ?_); refine JC.cond rfl (fun _ => ?_) (fun h => by cases h))
      ((repeat refine JC.seq ?_); refine JC.skip ?_)
      ((repeat refine Ex.normal_block ?_); refine Ex.next ?_)
      ((repeat refine JC.seq ?_); refine JC.block ?_)
      ((repeat refine JC.seq ?_); refine JC.region ?_)
      refine JL.entryR 1 H (hbl H.below) rfl rfl hes hM.born rfl ?_
      rw [hke, hve]
      refine JL.pure rfl rfl ?_
      refine JL.alloc H z62 rfl ?_
      intro b11 w3 H
      refine JL.storeB 0 H rfl rfl sh62 rfl rfl rfl rfl rfl ?_
      intro w4 H
      refine JL.nil ?_
      ((repeat refine Ex.normal_block ?_); refine Ex.next ?_)
      ((repeat refine JC.seq ?_); refine JC.region ?_)
      refine JL.pure rfl rfl ?_
      refine JL.loadB 0 H rfl sh62 rfl rfl rfl ?_
      obtain ⟨es2, clock2, hMi, hMb2⟩ := hm2.grow H.below
      refine JL.lookupB c false hMb2 hMi rfl rfl Try.underlying290 keyCell zero4 rfl ?_
      show JL _ _ _ _ _ (Fr.put _ (Value.bool (setR m2 c)) _) _
      refine JL.pure rfl rfl ?_
      refine JL.eqs rfl rfl (eqBool 4 Try.underlying4 _ _) rfl ?_
      refine JL.nil ?_
      ((repeat refine Ex.normal_block ?_); refine Ex.next ?_)
      ((repeat refine JC.seq ?_); refine JC.cond rfl ?_ ?_)
      · intro h22
        (try simp only [Bool.not_eq_true', Bool.not_eq_false', decide_eq_true_eq, decide_eq_false_iff_not] at h22)
        ((repeat refine JC.seq ?_); refine JC.region ?_)
        refine JL.pure rfl rfl ?_
        refine JL.loadB 0 H rfl sh62 rfl rfl rfl ?_
        refine JL.buildSlice H Try.underlying68 sh62 z62 rfl rfl rfl rfl rfl ?_
        intro b25 w5 H
        refine JL.append1 (news := Cell.cs c) 2 0 H Try.underlying68 ap62 rfl rfl rfl rfl rfl rfl (by omega) (by omega) rfl ?_
        intro v2 w6 H
        replace H := H.cast (L := _ :: _ :: cellRow v2 (out ++ [c]) :: _) (by unfold cellRow; rw [← trow_snoc]; rfl)
        refine JL.pure rfl rfl ?_
        refine JL.nil ?_
        (repeat refine Ex.normal_block ?_)
        refine Ex.again (a ++ b, seen.push e.born, clock, out ++ [c], v2) ⟨rfl, rfl, rfl, rfl, rfl, trivial⟩ ⟨hit2, Nat.le_refl _, ⟨fun x => ?_, by simp only [List.length_append, List.length_cons, List.length_nil] at hol ⊢; omega⟩, (H.drop 0).drop 0⟩ (by simp only [List.length_append, List.length_cons]; omega)
        simp only
        rw [← hout x]
        by_cases hxc : x = c
        · subst hxc
          simp_all
        · have e1 : (∃ b', (x, b') ∈ a ++ (c, true) :: b) ↔ ∃ b', (x, b') ∈ a ++ b := by
            simp [hxc]
          rw [e1]
          try simp [hxc]
      · intro h22
        (try simp only [Bool.not_eq_true', Bool.not_eq_false', decide_eq_true_eq, decide_eq_false_iff_not] at h22)
        ((repeat refine JC.seq ?_); refine JC.skip ?_)
        (repeat refine Ex.normal_block ?_)
        refine Ex.again (a ++ b, seen.push e.born, clock, out, v) ⟨rfl, rfl, rfl, rfl, rfl, trivial⟩ ⟨hit2, Nat.le_refl _, ⟨fun x => ?_, by simp only [List.length_append, List.length_cons, List.length_nil] at hol ⊢; omega⟩, H.drop 0⟩ (by simp only [List.length_append, List.length_cons]; omega)
        simp only
        rw [← hout x]
        by_cases hxc : x = c
        · subst hxc
          simp_all
        · have e1 : (∃ b', (x, b') ∈ a ++ (c, true) :: b) ↔ ∃ b', (x, b') ∈ a ++ b := by
            simp [hxc]
          rw [e1]
          try simp [hxc]
end Go.J

namespace Go.J
open Go.RowKit Go.Proofs
set_option maxRecDepth 8000
set_option linter.unusedSimpArgs false
set_option linter.unusedVariables false
/-! drift: a group grows into a set (its region is never too long on a small grid) -/
theorem seaGrow_c {w0 : World} {L : List HP} {β : Nat} {m : List (Cell × Bool)} (g : Grid) (lv cv wv rv : Value) (cu wi : List Flow) (d : Drifter) (r : List Run) (x p : Push) (w : World) (H : Own w0 w (setM β m :: L)) (hl : ∀ w' m', Own w0 w' (setM β m' :: L) → SlR w' lv g.land) (hr : ∀ w' m', Own w0 w' (setM β m' :: L) → SlR w' rv r)
    (hcv : ∃ a n c, cv = .slice a n c) (hwv : ∃ a n c, wv = .slice a n c) (h0 : (growR g r p).2.2 = 0) :
    Calls Try.prog 236 #[seaEv g lv cv wv d, .map (some β), .agg ⟨[.int .i64 x.Low.X, .int .i64 x.Low.Y, .int .i64 x.High.X, .int .i64 x.High.Y, rv]⟩, p.ev] w (fun e w' => e = .returned (.bool (growR g r p).2.1) ∧ ∃ m', Own w0 w' (setM β m' :: L) ∧ (∀ c, setR m' c = true ↔ setR m c = true ∨ c ∈ (cellsR g (growR g r p).1).1) ∧ m'.length ≤ m.length + (cellsR g (growR g r p).1).1.length ∧ (AllT m → AllT m')) := by
  obtain ⟨la, lc, rfl⟩ := (hl w m H).len
  obtain ⟨ra, rc, rfl⟩ := (hr w m H).len
  obtain ⟨ca, cn, cc, rfl⟩ := hcv
  obtain ⟨wa, wn, wc, rfl⟩ := hwv
  refine calls_J (args := [seaEv g (.slice la g.land.length lc) (.slice ca cn cc) (.slice wa wn wc) d, .map (some β), .agg ⟨[.int .i64 x.Low.X, .int .i64 x.Low.Y, .int .i64 x.High.X, .int .i64 x.High.Y, .slice ra r.length rc]⟩, p.ev]) Try.func236 rfl Try.ntmps236 rfl ?_
  ((repeat refine JC.seq ?_); refine JC.region ?_)
  refine JL.box H rfl rfl rfl ?_
  intro b4 w1 H
  refine JL.box H rfl rfl rfl ?_
  intro b6 w1 H
  refine JL.box H rfl rfl rfl ?_
  intro b7 w2 H
  refine JL.pure rfl rfl ?_
  refine JL.nil ?_
  ((repeat refine Ex.normal_block ?_); refine Ex.next ?_)
  ((repeat refine JC.seq ?_); refine JC.region ?_)
  refine JL.fieldAddr rfl Try.underlying220 rfl sh52 rfl ?_
  refine JL.loadB 2 H rfl sh52 rfl rfl rfl ?_
  refine JL.fieldAddr rfl Try.underlying330 rfl sh50 rfl ?_
  refine JL.loadB 1 H rfl sh50 rfl rfl rfl ?_
  refine JL.loadB 0 H rfl sh54 rfl rfl rfl ?_
  refine JL.call fb43 rfl rfl (grow_c g _ (.slice ra r.length rc) r p _ (hl _ _ (((H.drop 0).drop 0).drop 0)) (hr _ _ (((H.drop 0).drop 0).drop 0))) ?_
  have hgl2 := growR_len g r p
  generalize growR g r p = G at *
  rintro _ w3 ⟨gv, rfl, K⟩
  obtain ⟨ga, gc, rfl⟩ := K.row_slice (j := 0) rfl
  have H := H.join K
  refine ⟨_, rfl, ?_⟩
  refine JL.pure rfl rfl ?_
  refine JL.pure rfl rfl ?_
  refine JL.pure rfl rfl ?_
  refine JL.pure rfl rfl ?_
  refine JL.pure rfl rfl ?_
  refine JL.pure rfl rfl ?_
  refine JL.pure rfl rfl ?_
  refine JL.nil ?_
  ((repeat refine Ex.normal_block ?_); refine Ex.next ?_)
  ((repeat refine JC.seq ?_); refine JC.region ?_)
  refine JL.pure rfl rfl ?_
  refine JL.pure rfl rfl ?_
  refine JL.re 29 rfl (v' := .bool true) (by rw [h0]; rfl) ?_
  refine JL.nil ?_
  ((repeat refine Ex.normal_block ?_); refine Ex.next ?_)
  ((repeat refine JC.seq ?_); refine JC.cond rfl (fun _ => ?_) (fun h => by cases h))
  ((repeat refine JC.seq ?_); refine JC.region ?_)
  refine JL.pure rfl rfl ?_
  refine JL.fieldAddr rfl Try.underlying220 rfl sh52 rfl ?_
  refine JL.loadB 3 H rfl sh52 rfl rfl rfl ?_
  refine JL.pure rfl rfl ?_
  have H9 := H.front 4 rfl
  refine JL.call fb203 rfl rfl (setAdd_c g _ (.slice ga G.1.length gc) G.1 _ H9 (fun w' m' h => hl _ m' ((((h.drop 1).drop 1).drop 1).drop 1)) (fun w' m' h => runSl h (j := 1) rfl (by omega))) ?_
  rintro _ w4 ⟨rfl, m9, H, hm9⟩
  refine ⟨_, rfl, ?_⟩
  refine JL.nil ?_
  ((repeat refine Ex.normal_block ?_); refine Ex.next ?_)
  ((repeat refine JC.seq ?_); refine JC.region ?_)
  refine JL.pure rfl rfl ?_
  refine JL.pure rfl rfl ?_
  refine JL.nil ?_
  ((repeat refine Ex.normal_block ?_); refine Ex.next ?_)
  ((repeat refine JC.seq ?_); refine JC.ret ?_)
  (repeat (first | refine Ex.ret_then ?_ | refine Ex.ret_block ?_))
  refine Ex.ret1 rfl (.tmp rfl) ⟨rfl, m9, (((H.drop 1).drop 1).drop 1).drop 1, hm9⟩
end Go.J

namespace Go.J
open Go.RowKit Go.Proofs
set_option maxRecDepth 8000
set_option linter.unusedSimpArgs false
set_option linter.unusedVariables false
/-! drift: clones, a patch's cut -/
theorem still_ok {p : Push} (h : p.ok = true) : (stillP p).ok = true := by
  unfold Push.ok at h ⊢
  unfold stillP
  simp only [Bool.and_eq_true, decide_eq_true_eq] at h ⊢
  omega
/-- the push of a cell is one that Grow takes -/
theorem pushOf_ok {x y : Bnd} {sec : Int} (hx : x.tame 300000000) (hy : y.tame 300000000) (hx' : x.low ≤ x.high) (hy' : y.low ≤ y.high) (hs : 1 ≤ sec ∧ sec ≤ 43200) : (pushOf x y sec).ok = true := by
  unfold Bnd.tame at hx hy
  have q1 := mul_bd2 (A := 300000000) (B := 43200) hx.1.1 hx.1.2 (show -43200 ≤ sec by omega) hs.2
  have q2 := mul_bd2 (A := 300000000) (B := 43200) hx.2.1 hx.2.2 (show -43200 ≤ sec by omega) hs.2
  have q3 := mul_bd2 (A := 300000000) (B := 43200) hy.1.1 hy.1.2 (show -43200 ≤ sec by omega) hs.2
  have q4 := mul_bd2 (A := 300000000) (B := 43200) hy.2.1 hy.2.2 (show -43200 ≤ sec by omega) hs.2
  have m1 : x.low * sec ≤ x.high * sec := Int.mul_le_mul_of_nonneg_right hx' (by omega)
  have m2 : y.low * sec ≤ y.high * sec := Int.mul_le_mul_of_nonneg_right hy' (by omega)
  have e1 : -x.high * sec = -(x.high * sec) := Int.neg_mul _ _
  have e2 : -y.high * sec = -(y.high * sec) := Int.neg_mul _ _
  unfold pushOf Push.ok
  simp only [Bool.and_eq_true, decide_eq_true_eq]
  rw [e1, e2]
  generalize x.low * sec = a at *
  generalize x.high * sec = b at *
  generalize y.low * sec = c at *
  generalize y.high * sec = d at *
  omega
end Go.J

namespace Go.J
open Go.RowKit Go.Proofs
set_option maxRecDepth 8000
set_option linter.unusedSimpArgs false
set_option linter.unusedVariables false
/-! drift: bounds stay in order -/
def Bnd.le (b : Bnd) : Prop := b.low ≤ b.high
theorem plus_le {a b : Bnd} (ha : a.le) (hb : b.le) : (a.plus b).le := by unfold Bnd.le Bnd.plus at *; simp only; omega
theorem minus_le {a b : Bnd} (ha : a.le) (hb : b.le) : (a.minus b).le := by unfold Bnd.le Bnd.minus at *; simp only; omega
theorem times_le {a b : Bnd} (ha : a.le) (hb : b.le) (h0 : 0 ≤ b.low) : (a.times b).le := by
  unfold Bnd.le Bnd.times at *
  simp only
  have h1 : a.low * b.low ≤ a.high * b.low := Int.mul_le_mul_of_nonneg_right ha h0
  omega
theorem atR_le {c : Cell} {time : Int} : ∀ (fl : List Flow) (s : Bnd × Bnd × Bool), (∀ f ∈ fl, ordB f.low.X f.high.X = true ∧ ordB f.low.Y f.high.Y = true) → s.1.le → s.2.1.le →
    (fl.foldl (atStep c time) s).1.le ∧ (fl.foldl (atStep c time) s).2.1.le := by
  intro fl
  induction fl with
  | nil => intro s _ h1 h2; exact ⟨h1, h2⟩
  | cons f fl ih =>
    intro s hf h1 h2
    obtain ⟨o1, o2⟩ := hf f List.mem_cons_self
    unfold ordB at o1 o2
    simp only [Bool.and_eq_true, decide_eq_true_eq] at o1 o2
    rw [List.foldl_cons]
    have hs : (atStep c time s f).1.le ∧ (atStep c time s f).2.1.le := by
      unfold atStep
      unfold Bnd.le at *
      split
      · split <;> simp only <;> omega
      · exact ⟨h1, h2⟩
    exact ih _ (fun x hx => hf x (List.mem_cons_of_mem _ hx)) hs.1 hs.2
theorem push_ok {g : Grid} {cu wi : List Flow} {d : Drifter} {c : Cell} {side time sec : Int} (hs : seaB g cu wi d sec = true) (hk : (pushR cu wi d c side time sec).2 = true) : (pushR cu wi d c side time sec).1.ok = true := by
  unfold seaB flowsB at hs
  simp only [Bool.and_eq_true, decide_eq_true_eq] at hs
  obtain ⟨⟨⟨⟨hgok, hf1⟩, hf2⟩, hdo⟩, hsec⟩ := hs
  unfold Drifter.ok at hdo
  simp only [Bool.and_eq_true, decide_eq_true_eq] at hdo
  obtain ⟨t1, o1⟩ := flow_facts hf1
  obtain ⟨t2, o2⟩ := flow_facts hf2
  have k0 : Bnd.tame ⟨0, 0⟩ 100000 := by unfold Bnd.tame; simp
  have l0 : Bnd.le ⟨0, 0⟩ := Int.le_refl _
  have kA := atR_tame (c := c) (time := time) cu (⟨0, 0⟩, ⟨0, 0⟩, false) o1 k0 k0
  have kB := atR_tame (c := c) (time := time) wi (⟨0, 0⟩, ⟨0, 0⟩, false) o2 k0 k0
  have lA := atR_le (c := c) (time := time) cu (⟨0, 0⟩, ⟨0, 0⟩, false) o1 l0 l0
  have lB := atR_le (c := c) (time := time) wi (⟨0, 0⟩, ⟨0, 0⟩, false) o2 l0 l0
  change (atR cu c time).1.tame 100000 ∧ (atR cu c time).2.1.tame 100000 at kA
  change (atR wi c time).1.tame 100000 ∧ (atR wi c time).2.1.tame 100000 at kB
  change (atR cu c time).1.le ∧ (atR cu c time).2.1.le at lA
  change (atR wi c time).1.le ∧ (atR wi c time).2.1.le at lB
  unfold pushR at hk ⊢
  split at hk
  · rename_i hb
    rw [if_pos hb]
    generalize atR cu c time = A at *
    generalize atR wi c time = B at *
    have kth : Bnd.tame ⟨1000, 1000⟩ 1000 := by unfold Bnd.tame; simp
    have kdn : Bnd.tame ⟨d.dl, d.dh⟩ 1000 := by unfold Bnd.tame; simp only; omega
    have kcr : Bnd.tame ⟨d.cl, d.ch⟩ 1000 := by unfold Bnd.tame; simp only; omega
    have lth : Bnd.le ⟨1000, 1000⟩ := Int.le_refl _
    have ldn : Bnd.le ⟨d.dl, d.dh⟩ := hdo.1.1.2
    have lcr : Bnd.le ⟨d.cl, d.ch⟩ := hdo.1.2.2
    have X1 := plus_tame (times_tame kA.1 kth) (times_tame kB.1 kdn)
    have Y1 := plus_tame (times_tame kA.2 kth) (times_tame kB.2 kdn)
    have XL := plus_le (times_le lA.1 lth (by simp)) (times_le lB.1 ldn hdo.1.1.1)
    have YL := plus_le (times_le lA.2 lth (by simp)) (times_le lB.2 ldn hdo.1.1.1)
    have CA := times_le lB.1 lcr hdo.1.2.1
    have CB := times_le lB.2 lcr hdo.1.2.1
    unfold xyR
    simp only
    split
    · exact pushOf_ok (tame_mono (minus_tame X1 (times_tame kB.2 kcr)) (by decide)) (tame_mono (plus_tame Y1 (times_tame kB.1 kcr)) (by decide)) (minus_le XL CB) (plus_le YL CA) hsec
    · exact pushOf_ok (tame_mono (plus_tame X1 (times_tame kB.2 kcr)) (by decide)) (tame_mono (minus_tame Y1 (times_tame kB.1 kcr)) (by decide)) (plus_le XL CB) (minus_le YL CA) hsec
  · cases hk
end Go.J

namespace Go.J
open Go.RowKit Go.Proofs
set_option maxRecDepth 8000
set_option linter.unusedSimpArgs false
set_option linter.unusedVariables false
/-! drift: three regions, one by one -/
def firstErr (F : Nat → List Run × Int) : Int := if (F 0).2 ≠ 0 then (F 0).2 else if (F 1).2 ≠ 0 then (F 1).2 else (F 2).2
def nil3 : List Value := [.slice none 0 0, .slice none 0 0, .slice none 0 0]
theorem set_nil3 {vs : List Value} {i : Nat} {v : Value} (h : vs.length = i) (hi : i < 3) : (vs ++ List.replicate (3 - i) (Value.slice none 0 0)).set i v = (vs ++ [v]) ++ List.replicate (3 - (i + 1)) (Value.slice none 0 0) := by
  subst h
  rw [List.set_append, if_neg (by omega), Nat.sub_self, show 3 - vs.length = (3 - (vs.length + 1)) + 1 by omega, List.replicate_succ, List.set_cons_zero, List.append_assoc]
  rfl
theorem len3 {l : List Value} (h : l.length = 3) : ∃ a b c, l = [a, b, c] := by
  match l, h with
  | [a, b, c], _ => exact ⟨a, b, c, rfl⟩
theorem each_c (f : FuncId) (capt : List Value) (F : Nat → List Run × Int) (w : World) (hb : hasBody Try.prog f = true)
    (hf : ∀ w', Below w.heap.size w w' → ∀ i : Nat, i < 3 → Calls Try.prog f (.int .i64 i :: capt).toArray w' (fun e w'' => ResR w' w'' [] (F i) e)) :
    Calls Try.prog 231 #[.func (.func f) #[] ⟨capt⟩] w (fun e w' => ∃ arr, e = .returned (.tuple #[.agg ⟨arr⟩, .int .i64 (firstErr F)]) ∧ (firstErr F = 0 → arr.length = 3 ∧ Own w w' [bag (rowsOf runRow arr [(F 0).1, (F 1).1, (F 2).1])]) ∧ (firstErr F ≠ 0 → arr = nil3 ∧ Own w w' [])) := by
  refine calls_J (args := [.func (.func f) #[] ⟨capt⟩]) Try.func231 rfl Try.ntmps231 rfl ?_
  have H := Own.start w
  ((repeat refine JC.seq ?_); refine JC.region ?_)
  refine JL.alloc H z292 rfl ?_
  intro b2 w1 H
  refine JL.pure rfl rfl ?_
  refine JL.nil ?_
  ((repeat refine Ex.normal_block ?_); refine Ex.next ?_)
  ((repeat refine JC.seq ?_); refine JC.region ?_)
  refine JL.pure rfl rfl ?_
  refine JL.nil ?_
  ((repeat refine Ex.normal_block ?_); refine Ex.next ?_)
  ((repeat refine JC.seq ?_); refine JC.block ?_)
  ((repeat refine JC.seq ?_); refine JC.loop (ι := Nat × List Value × List (List Run)) (fun x => [(0, .func (.func f) #[] ⟨capt⟩), (2, .pointer (some ⟨b2, 0, none⟩)), (5, .int .i64 x.1)])
    (fun x wr => x.1 ≤ 3 ∧ (x.2.1.length = x.1 ∧ x.2.2 = (List.range x.1).map (fun i => (F i).1) ∧ ∀ i, i < x.1 → (F i).2 = 0) ∧ Own w wr [blk b2 (.cells ⟨x.2.1 ++ List.replicate (3 - x.1) (.slice none 0 0)⟩ 292 (0, 0)), bag (rowsOf runRow x.2.1 x.2.2)]) (fun x => 3 - x.1) (0, [], []) ?_ ?_ ?_)
  · exact ⟨rfl, rfl, rfl, trivial⟩
  · exact ⟨Nat.zero_le _, ⟨rfl, rfl, fun i h => by omega⟩, ((show Own _ _ ([] ++ _) from H).pack).perm (List.Perm.swap _ _ _)⟩
  · rintro ⟨i, vs, ps⟩ wr ⟨hi, ⟨hvl, hps, hz⟩, H⟩
    simp only at hi hvl hps hz H
    show JC _ _ _ _ [(0, .func (.func f) #[] ⟨capt⟩), (2, .pointer (some ⟨b2, 0, none⟩)), (5, .int .i64 i)] _
    ((repeat refine JC.seq ?_); refine JC.region ?_)
    refine JL.pure rfl rfl ?_
    refine JL.nil ?_
    ((repeat refine Ex.normal_block ?_); refine Ex.next ?_)
    ((repeat refine JC.seq ?_); refine JC.cond rfl ?_ ?_)
    · intro h6
      (try simp only [Bool.not_eq_true', Bool.not_eq_false', decide_eq_true_eq, decide_eq_false_iff_not] at h6)
      have h6 : i < 3 := by omega
      ((repeat refine JC.seq ?_); refine JC.skip ?_)
      ((repeat refine Ex.normal_block ?_); refine Ex.next ?_)
      ((repeat refine JC.seq ?_); refine JC.block ?_)
      ((repeat refine JC.seq ?_); refine JC.region ?_)
      refine JL.pure rfl rfl ?_
      refine JL.pure rfl rfl ?_
      refine JL.nil ?_
      ((repeat refine Ex.normal_block ?_); refine Ex.next ?_)
      ((repeat refine JC.seq ?_); refine JC.region ?_)
      refine JL.pure rfl rfl ?_
      refine JL.pure rfl rfl ?_
      refine JL.pure rfl rfl ?_
      refine JL.callv rfl hb rfl rfl (hf _ H.below i h6) ?_
      rintro _ w2 ⟨zv, rfl, K⟩
      obtain ⟨za, zc, rfl⟩ := K.row_slice (j := 0) rfl
      have H := H.join K
      refine ⟨_, rfl, ?_⟩
      refine JL.pure rfl rfl ?_
      refine JL.pure rfl rfl ?_
      refine JL.pure rfl rfl ?_
      refine JL.indexA i rfl rfl Try.underlying292 sh50 rfl h6 rfl ?_
      have hal : (vs ++ List.replicate (3 - i) (Value.slice none 0 0)).length = 3 := by rw [List.length_append, List.length_replicate]; omega
      refine JL.storeB (cs := vs ++ List.replicate (3 - i) (.slice none 0 0)) 1 H rfl rfl sh50 rfl rfl rfl (setK_one (by rw [hal]; omega)) rfl ?_
      intro w8 H
      refine JL.pure rfl rfl ?_
      refine JL.nil ?_
      ((repeat refine Ex.normal_block ?_); refine Ex.next ?_)
      ((repeat refine JC.seq ?_); refine JC.region ?_)
      refine JL.pure rfl rfl ?_
      refine JL.pure rfl rfl ?_
      refine JL.nil ?_
      ((repeat refine Ex.normal_block ?_); refine Ex.next ?_)
      ((repeat refine JC.seq ?_); refine JC.cond rfl ?_ ?_)
      · intro h17
        (try simp only [Bool.not_eq_true', Bool.not_eq_false', decide_eq_true_eq, decide_eq_false_iff_not] at h17)
        have hE : firstErr F = (F i).2 := by
          unfold firstErr
          rcases (show i = 0 ∨ i = 1 ∨ i = 2 by omega) with rfl | rfl | rfl
          · rw [if_pos h17]
          · rw [if_neg (by simp [hz 0 (by omega)]), if_pos h17]
          · rw [if_neg (by simp [hz 0 (by omega)]), if_neg (by simp [hz 1 (by omega)])]
        obtain ⟨y0, y1, y2, hy⟩ := len3 (l := (vs ++ List.replicate (3 - i) (Value.slice none 0 0)).set (0 + i * 1) (.slice za (F i).1.length zc)) (by rw [List.length_set]; exact hal)
        rw [hy] at H
        ((repeat refine JC.seq ?_); refine JC.region ?_)
        refine JL.buildA Try.underlying292 sh50 za292 rfl rfl ?_
        refine JL.pure rfl rfl ?_
        refine JL.storeB 1 H rfl rfl sh292 rfl rfl rfl rfl rfl ?_
        intro w3 H
        refine JL.pure rfl rfl ?_
        refine JL.nil ?_
        ((repeat refine Ex.normal_block ?_); refine Ex.next ?_)
        ((repeat refine JC.seq ?_); refine JC.ret ?_)
        (repeat (first | refine Ex.ret_then ?_ | refine Ex.ret_block ?_))
        refine Ex.ret2 rfl (.cell rfl sh292 (LdAt.of_block (H.get (i := 1) rfl).2 rfl)) (.tmp rfl) ⟨nil3, ?_, fun h => absurd h (by rw [hE]; exact h17), fun _ => ⟨rfl, ((H.drop 0).drop 0).drop 0⟩⟩
        rw [hE]; rfl
      · intro h17
        (try simp only [Bool.not_eq_true', Bool.not_eq_false', decide_eq_true_eq, decide_eq_false_iff_not] at h17)
        have hzi : (F i).2 = 0 := by omega
        ((repeat refine JC.seq ?_); refine JC.skip ?_)
        ((repeat refine Ex.normal_block ?_); refine Ex.next ?_)
        ((repeat refine JC.seq ?_); refine JC.region ?_)
        refine JL.arith rfl (by unfold In64; omega) rfl ?_
        refine JL.pure rfl rfl ?_
        refine JL.nil ?_
        (repeat refine Ex.normal_block ?_)
        have hB := H.front 2 rfl
        have hB := (hB.unpack).perm (show (rowsOf runRow vs ps ++ [_, _]).Perm _ from (List.perm_append_comm (l₁ := rowsOf runRow vs ps) (l₂ := [_, _])))
        refine Ex.again (i + 1, vs ++ [.slice za (F i).1.length zc], ps ++ [(F i).1]) ⟨rfl, rfl, rfl, trivial⟩ ⟨by simp only; omega, ⟨by simp [hvl], ?_, fun j hj => ?_⟩, ?_⟩ (by simp only; omega)
        · simp only
          rw [hps, List.range_succ, List.map_append]; rfl
        · by_cases e : j = i
          · rw [e]; exact hzi
          · exact hz j (by simp only at hj; omega)
        · simp only
          rw [← set_nil3 hvl h6, rowsOf_snoc (by rw [hps, hvl]; simp)]
          have H2 := (H.front 2 rfl).unpack
          have H3 : Own _ _ ((rowsOf runRow vs ps ++ [_]) ++ [_]) := H2.cast (List.append_assoc _ _ _)
          have H4 := H3.pack.perm (List.Perm.swap _ _ _)
          rw [Nat.zero_add, Nat.mul_one] at H4
          exact H4
    · intro h6
      (try simp only [Bool.not_eq_true', Bool.not_eq_false', decide_eq_true_eq, decide_eq_false_iff_not] at h6)
      have hi3 : i = 3 := by omega
      subst hi3
      obtain ⟨y0, y1, y2, rfl⟩ := len3 hvl
      replace H : Own w wr [blk b2 (.cells ⟨[y0, y1, y2]⟩ 292 (0, 0)), bag (rowsOf runRow [y0, y1, y2] ps)] := H
      have hE : firstErr F = 0 := by unfold firstErr; rw [hz 0 (by omega), hz 1 (by omega), hz 2 (by omega)]; rfl
      subst hps
      have Hb := H.unpackAt (i := 1) rfl
      obtain ⟨u0, r0, rfl⟩ := Hb.row_slice (j := 0) rfl
      obtain ⟨u1, r1, rfl⟩ := Hb.row_slice (j := 1) rfl
      obtain ⟨u2, r2, rfl⟩ := Hb.row_slice (j := 2) rfl
      ((repeat refine JC.seq ?_); refine JC.exit ?_)
      (repeat (first | refine Ex.exit_then ?_ | refine Ex.exit_miss (by decide) ?_))
      refine Ex.exit_hit ?_
      ((repeat refine Ex.normal_block ?_); refine Ex.next ?_)
      ((repeat refine JC.seq ?_); refine JC.region ?_)
      refine JL.loadB 0 H rfl sh292 rfl rfl rfl ?_
      refine JL.storeB 0 H rfl rfl sh292 rfl rfl rfl rfl rfl ?_
      intro w4 H
      refine JL.pure rfl rfl ?_
      refine JL.nil ?_
      ((repeat refine Ex.normal_block ?_); refine Ex.next ?_)
      ((repeat refine JC.seq ?_); refine JC.ret ?_)
      (repeat (first | refine Ex.ret_then ?_ | refine Ex.ret_block ?_))
      refine Ex.ret2 rfl (.cell rfl sh292 (LdAt.of_block (H.get (i := 0) rfl).2 rfl)) (.tmp rfl) ⟨_, by rw [hE], fun _ => ⟨rfl, H.drop 0⟩, fun h => absurd hE h⟩
end Go.J

namespace Go.J
open Go.RowKit Go.Proofs
set_option maxRecDepth 8000
set_option linter.unusedSimpArgs false
set_option linter.unusedVariables false
/-! drift: an operation on a region of a patch -/
/-- what an operation on two regions does -/
def OpIs (fo : FuncId) (g : Grid) (op : List Run → List Run → List Run × Int) : Prop := hasBody Try.prog fo = true ∧ ∀ (lv av bv : Value) (a b : List Run) (w : World), SlR w lv g.land → SlR w av a → SlR w bv b → capOK av → capOK bv →
  Calls Try.prog fo #[g.ev lv, av, bv] w (fun e w' => ResR w w' [] (op a b) e)
theorem op_both (g : Grid) : OpIs 42 g (bothR g) := ⟨by kernel_rfl, fun lv av bv a b w hl ha hb hca hcb => both2_c g lv av bv a b w hl ha hb hca hcb⟩
theorem op_either (g : Grid) : OpIs 54 g (eitherR g) := ⟨by kernel_rfl, fun lv av bv a b w hl ha hb hca hcb => either_c g lv av bv a b w hl ha hb hca hcb⟩
theorem op_without (g : Grid) : OpIs 57 g (withoutR g) := ⟨by kernel_rfl, fun lv av bv a b w hl ha hb hca hcb => without_c g lv av bv a b w hl ha hb hca hcb⟩
def nth3 {α : Type} (a b c : α) (i : Nat) : α := if i = 0 then a else if i = 1 then b else c
theorem cut1_c (fo : FuncId) (g : Grid) (op : List Run → List Run → List Run × Int) (hop : OpIs fo g op) (lv : Value) (t : Int) (a1 a2 a3 : Option Addr) (d1 d2 d3 : Nat) (l r b : List Run) (off : Bool) (qa : Option Addr) (qc : Nat) (q : List Run) (i : Nat) (β1 β2 β3 β4 : Nat) (w : World)
    (g1 : LdAt w β1 0 (false, 1) (.func (.func fo) #[] #[])) (g2 : LdAt w β2 0 (true, 4) (g.ev lv)) (g3 : LdAt w β3 0 (true, 5) (.agg ⟨[.int .i64 t, .slice a1 l.length d1, .slice a2 r.length d2, .slice a3 b.length d3, .bool off]⟩)) (g4 : LdAt w β4 0 (false, 1) (.slice qa q.length qc))
    (b1 : β1 < w.heap.size) (b2 : β2 < w.heap.size) (b3 : β3 < w.heap.size) (b4 : β4 < w.heap.size) (hi : i < 3) (hl : SlR w lv g.land) (h1 : SlR w (.slice a1 l.length d1) l) (h2 : SlR w (.slice a2 r.length d2) r) (h3 : SlR w (.slice a3 b.length d3) b) (hq : SlR w (.slice qa q.length qc) q)
    (c1 : capOK (.slice a1 l.length d1)) (c2 : capOK (.slice a2 r.length d2)) (c3 : capOK (.slice a3 b.length d3)) (c4 : capOK (.slice qa q.length qc)) :
    Calls Try.prog 260 #[.int .i64 i, .pointer (some ⟨β1, 0, none⟩), .pointer (some ⟨β2, 0, none⟩), .pointer (some ⟨β3, 0, none⟩), .pointer (some ⟨β4, 0, none⟩)] w (fun e w' => ResR w w' [] (op (nth3 l r b i) q) e) := by
  refine calls_J (args := [.int .i64 i, .pointer (some ⟨β1, 0, none⟩), .pointer (some ⟨β2, 0, none⟩), .pointer (some ⟨β3, 0, none⟩), .pointer (some ⟨β4, 0, none⟩)]) Try.func260 rfl Try.ntmps260 rfl ?_
  have H := Own.start w
  ((repeat refine JC.seq ?_); refine JC.region ?_)
  refine JL.pure rfl rfl ?_
  refine JL.pure rfl rfl ?_
  refine JL.nil ?_
  ((repeat refine Ex.normal_block ?_); refine Ex.next ?_)
  ((repeat refine JC.seq ?_); refine JC.drawS H mixed ?_)
  intro w1 H
  refine DR.any 0 7 H (by kernel_rfl) ?_
  refine JD.load rfl sh333 (fun w hw => g1.grow b1 hw.below) rfl ?_
  refine JD.load rfl sh52 (fun w hw => g2.grow b2 hw.below) rfl ?_
  refine JD.load rfl sh90 (fun w hw => g3.grow b3 hw.below) rfl ?_
  refine JD.call fb202 rfl rfl (fun w hw => ofD_c t a1 a2 a3 l.length r.length b.length d1 d2 d3 off w) ?_
  refine JD.pure rfl rfl ?_
  obtain ⟨za, zc, hz, hzs, hzc⟩ : ∃ za zc, [Value.slice a1 l.length d1, .slice a2 r.length d2, .slice a3 b.length d3][i]? = some (.slice za (nth3 l r b i).length zc) ∧ SlR w (.slice za (nth3 l r b i).length zc) (nth3 l r b i) ∧ capOK (.slice za (nth3 l r b i).length zc) := by
    rcases (show i = 0 ∨ i = 1 ∨ i = 2 by omega) with rfl | rfl | rfl
    · exact ⟨_, _, rfl, h1, c1⟩
    · exact ⟨_, _, rfl, h2, c2⟩
    · exact ⟨_, _, rfl, h3, c3⟩
  refine JD.index1 i rfl rfl Try.underlying292 sh50 rfl hi hz rfl ?_
  refine JD.load rfl sh50 (fun w hw => g4.grow b4 hw.below) rfl ?_
  refine JD.nil ?_
  intro w2 H
  show DR _ _ _ _ _ _ _
  refine DR.op rfl (by kernel_rfl) ?_
  refine JL.callv rfl hop.1 rfl rfl (hop.2 _ _ _ (nth3 l r b i) q _ (hl.grow H.below) (hzs.grow H.below) (hq.grow H.below) hzc c4) ?_
  rintro _ w3 ⟨rv, rfl, K⟩
  have H := H.join K
  refine ⟨_, rfl, ?_⟩
  refine DR.next ?_
  refine DR.any 8 12 H (by kernel_rfl) ?_
  refine JD.pure rfl rfl ?_
  refine JD.pure rfl rfl ?_
  refine JD.pure rfl rfl ?_
  refine JD.pure rfl rfl ?_
  refine JD.nil ?_
  intro w4 H
  show DR _ _ _ _ _ _ _
  refine DR.done rfl ?_
  ((repeat refine Ex.normal_block ?_); refine Ex.next ?_)
  ((repeat refine JC.seq ?_); refine JC.ret ?_)
  (repeat (first | refine Ex.ret_then ?_ | refine Ex.ret_block ?_))
  refine Ex.ret2 rfl (.tmp rfl) (.tmp rfl) ⟨_, rfl, H⟩
end Go.J

namespace Go.J
set_option linter.unusedSimpArgs false
set_option linter.unusedVariables false
/-! plain: a step of a patch, by cells -/
structure QP where
  time : Int
  l : List Run
  r : List Run
  b : List Run
  off : Bool
def zQP : QP := ⟨0, [], [], [], false⟩
instance (l : Lead) (d c : Cell) : Decidable (rectC l d c) := by unfold rectC; infer_instance
def growC (g : Grid) (p : Push) (d c : Cell) : Bool := decide (rectC (leadOf g p) d c)
def offC (g : Grid) (p : Push) (d : Cell) : Bool := offB g (leadOf g p) ⟨d.Y, d.X, d.X + 1⟩
def sweepS (g : Grid) (F : Cell → Push) (r : List Run) (c : Cell) : Bool := (cellsAll r).any fun b => growC g (F b) b c
def sweepO (g : Grid) (F : Cell → Push) (r : List Run) : Bool := (cellsAll r).any fun b => offC g (F b) b
theorem sweepS_iff {g : Grid} {F : Cell → Push} {r : List Run} {c : Cell} : sweepS g F r c = true ↔ ∃ b, hasB r b = true ∧ rectC (leadOf g (F b)) b c := by
  unfold sweepS growC
  simp only [List.any_eq_true, decide_eq_true_eq, mem_cellsAll]
theorem sweepO_iff {g : Grid} {F : Cell → Push} {r : List Run} : sweepO g F r = true ↔ ∃ b, hasB r b = true ∧ offC g (F b) b = true := by
  unfold sweepO
  simp only [List.any_eq_true, mem_cellsAll]
theorem runsR_small {g : Grid} (hg : g.ok = true) (hs : g.W * g.H ≤ 4096) (s : Cell → Bool) : (runsR g s).2 = 0 ∧ rightB g.W g.H (runsR g s).1 = true ∧ ∀ c, hasB (runsR g s).1 c = true ↔ inG g c ∧ s c = true := by
  obtain ⟨hW, hH, _, _⟩ := Grid.ok_b hg
  obtain ⟨h1, h2⟩ := runAll_ok (g := g) (by omega) (by omega) s
  have h3 := h1.len (by omega) hH.1
  have h4 : g.H ≤ g.W * g.H := by
    have := Int.mul_le_mul_of_nonneg_right hW.1 (show 0 ≤ g.H by omega)
    omega
  rw [Int.mul_add, Int.mul_comm g.H g.W] at h3
  unfold runsR
  rw [if_neg (by omega)]
  exact ⟨rfl, right_iff.2 ⟨h1, by simp only; omega⟩, h2⟩
theorem growR_ok {g : Grid} (hg : g.ok = true) (hs : g.W * g.H ≤ 4096) {r : List Run} {p : Push} (hr : rightB g.W g.H r = true) (hp : p.ok = true) :
    growR g r p = (regR (growT g (leadOf g p) r), r.any (offB g (leadOf g p)), 0) ∧ rightB g.W g.H (regR (growT g (leadOf g p) r)) = true := by
  obtain ⟨hW, hH, hS, _⟩ := Grid.ok_b hg
  obtain ⟨h4, _, h5⟩ := regRes_fits (growT_all hH (leadOf g p) r) (growT_low g (leadOf g p) r tab0 (tab0_low _)) hW.1 hH.1 hs
  refine ⟨?_, h5⟩
  unfold growR
  rw [checked_one hg hr, hp, h4]
  simp
theorem any_off {g : Grid} {l : Lead} {rs : List Run} (hr : ∀ r ∈ rs, r.From < r.To) : rs.any (offB g l) = true ↔ ∃ b, hasB rs b = true ∧ offB g l ⟨b.Y, b.X, b.X + 1⟩ = true := by
  unfold offB
  simp only [List.any_eq_true, Bool.or_eq_true, decide_eq_true_eq]
  constructor
  · rintro ⟨r, h1, h2⟩
    have h3 := hr r h1
    rcases h2 with ((h | h) | h) | h
    · exact ⟨⟨r.From, r.Y⟩, hasB_iff.2 ⟨r, h1, rfl, by simp only; omega, by simp only; omega⟩, by simp only; omega⟩
    · exact ⟨⟨r.To - 1, r.Y⟩, hasB_iff.2 ⟨r, h1, rfl, by simp only; omega, by simp only; omega⟩, by simp only; omega⟩
    · exact ⟨⟨r.From, r.Y⟩, hasB_iff.2 ⟨r, h1, rfl, by simp only; omega, by simp only; omega⟩, by simp only; omega⟩
    · exact ⟨⟨r.From, r.Y⟩, hasB_iff.2 ⟨r, h1, rfl, by simp only; omega, by simp only; omega⟩, by simp only; omega⟩
  · rintro ⟨b, h1, h2⟩
    obtain ⟨r, h3, h4, h5, h6⟩ := hasB_iff.1 h1
    exact ⟨r, h3, by omega⟩
/-- a region in groups -/
structure GroupsOk (g : Grid) (F : Cell → Push) (r : List Run) (gl : List (Push × List Run)) : Prop where
  right : ∀ x ∈ gl, rightB g.W g.H x.2 = true
  ne : ∀ x ∈ gl, ∃ c, hasB x.2 c = true
  own : ∀ x ∈ gl, ∀ c, hasB x.2 c = true → hasB r c = true ∧ F c = x.1
  all : ∀ c, hasB r c = true → ∃ x ∈ gl, hasB x.2 c = true
theorem GroupsOk.grow {g : Grid} {F : Cell → Push} {r : List Run} {gl : List (Push × List Run)} (h : GroupsOk g F r gl) (hg : g.ok = true) (hs : g.W * g.H ≤ 4096) (T : Push → Push) (hT : ∀ c, hasB r c = true → (T (F c)).ok = true) {x : Push × List Run} (hx : x ∈ gl) :
    (T x.1).ok = true ∧ growR g x.2 (T x.1) = (regR (growT g (leadOf g (T x.1)) x.2), x.2.any (offB g (leadOf g (T x.1))), 0) ∧ rightB g.W g.H (regR (growT g (leadOf g (T x.1)) x.2)) = true := by
  obtain ⟨c, hc⟩ := h.ne x hx
  obtain ⟨h1, h2⟩ := h.own x hx c hc
  have hp : (T x.1).ok = true := by rw [← h2]; exact hT c h1
  exact ⟨hp, growR_ok hg hs (h.right x hx) hp⟩
theorem cells_right {g : Grid} (hg : g.ok = true) {r : List Run} (hr : rightB g.W g.H r = true) : cellsR g r = (cellsAll r, 0) := by
  unfold cellsR
  rw [if_pos (checked_one hg hr)]
theorem GroupsOk.has {g : Grid} {F : Cell → Push} {r : List Run} {gl : List (Push × List Run)} (h : GroupsOk g F r gl) (hg : g.ok = true) (hs : g.W * g.H ≤ 4096) (T : Push → Push) (hT : ∀ c, hasB r c = true → (T (F c)).ok = true) (c : Cell) :
    (∃ x ∈ gl, c ∈ (cellsR g (growR g x.2 (T x.1)).1).1) ↔ inG g c ∧ sweepS g (fun b => T (F b)) r c = true := by
  obtain ⟨hW, hH, hS, _⟩ := Grid.ok_b hg
  rw [sweepS_iff]
  constructor
  · rintro ⟨x, hx, hc⟩
    obtain ⟨hp, e, hr⟩ := h.grow hg hs T hT hx
    rw [e] at hc
    simp only [cells_right hg hr, mem_cellsAll] at hc
    have hcx := canon_of_right (h.right x hx)
    obtain ⟨h1, d, h2, h3⟩ := (grow_has hH (leadOf_wide hS.1 hp).1 (fun r hr => (hcx.rng r hr).2.2.1) c).1 hc
    obtain ⟨h4, h5⟩ := h.own x hx d h2
    exact ⟨h1, d, h4, by rw [h5]; exact h3⟩
  · rintro ⟨h1, d, h2, h3⟩
    obtain ⟨x, hx, h4⟩ := h.all d h2
    obtain ⟨_, h5⟩ := h.own x hx d h4
    obtain ⟨hp, e, hr⟩ := h.grow hg hs T hT hx
    refine ⟨x, hx, ?_⟩
    rw [e]
    simp only [cells_right hg hr, mem_cellsAll]
    have hcx := canon_of_right (h.right x hx)
    exact (grow_has hH (leadOf_wide hS.1 hp).1 (fun r hr => (hcx.rng r hr).2.2.1) c).2 ⟨h1, d, h4, by rw [← h5]; exact h3⟩
theorem GroupsOk.off {g : Grid} {F : Cell → Push} {r : List Run} {gl : List (Push × List Run)} (h : GroupsOk g F r gl) (hg : g.ok = true) (hs : g.W * g.H ≤ 4096) (T : Push → Push) (hT : ∀ c, hasB r c = true → (T (F c)).ok = true) :
    (∃ x ∈ gl, (growR g x.2 (T x.1)).2.1 = true) ↔ sweepO g (fun b => T (F b)) r = true := by
  rw [sweepO_iff]
  constructor
  · rintro ⟨x, hx, hc⟩
    obtain ⟨hp, e, hr⟩ := h.grow hg hs T hT hx
    rw [e] at hc
    have hcx := canon_of_right (h.right x hx)
    obtain ⟨d, h2, h3⟩ := (any_off (fun r hr => (hcx.rng r hr).2.2.1)).1 hc
    obtain ⟨h4, h5⟩ := h.own x hx d h2
    exact ⟨d, h4, by unfold offC; rw [h5]; exact h3⟩
  · rintro ⟨d, h2, h3⟩
    obtain ⟨x, hx, h4⟩ := h.all d h2
    obtain ⟨_, h5⟩ := h.own x hx d h4
    obtain ⟨hp, e, hr⟩ := h.grow hg hs T hT hx
    have hcx := canon_of_right (h.right x hx)
    refine ⟨x, hx, ?_⟩
    rw [e]
    refine (any_off (fun r hr => (hcx.rng r hr).2.2.1)).2 ⟨d, h4, ?_⟩
    rw [← h5]; exact h3
/-- as many different cells as a grid has -/
theorem nodup_sub_len {α : Type} [DecidableEq α] : ∀ {l m : List α}, l.Nodup → (∀ x ∈ l, x ∈ m) → l.length ≤ m.length := by
  intro l
  induction l with
  | nil => intro m _ _; simp
  | cons a l ih =>
    intro m hn hs
    simp only [List.nodup_cons] at hn
    have ha := hs a (by simp)
    have h1 := ih (m := m.erase a) hn.2 fun x hx => (List.mem_erase_of_ne (by rintro rfl; exact hn.1 hx)).2 (hs x (List.mem_cons_of_mem _ hx))
    rw [List.length_erase_of_mem ha] at h1
    have := List.length_pos_of_mem ha
    simp only [List.length_cons]
    omega
theorem keys_small {g : Grid} (hg : g.ok = true) {m : List (Cell × Bool)} (hn : (m.map Prod.fst).Nodup) (ht : AllT m) (hin : ∀ c, setR m c = true → inG g c) : m.length ≤ 65536 := by
  obtain ⟨hW, hH, _, _⟩ := Grid.ok_b hg
  have h1 := nodup_sub_len (m := everyR g.W.toNat g.H.toNat) hn fun c hc => by
    obtain ⟨⟨c', b⟩, hp, rfl⟩ := List.mem_map.1 hc
    exact (every_inG (by omega) (by omega)).2 (hin _ ((setR_key hn ht c').1 ⟨b, hp⟩))
  rw [everyR_len, List.length_map] at h1
  have h3 := nat_mul_bd (a := g.W.toNat) (b := g.H.toNat) (by omega) (by omega)
  omega
/-! the step -/
def pF (cu wi : List Flow) (d : Drifter) (side time sec : Int) (b : Cell) : Push := (pushR cu wi d b side time sec).1
def knownB (cu wi : List Flow) (d : Drifter) (side time sec : Int) (r : List Run) : Bool := (cellsAll r).all fun b => (pushR cu wi d b side time sec).2
section
variable (g : Grid) (cu wi : List Flow) (d : Drifter) (p : QP) (sec : Int)
def leftS (c : Cell) : Bool := sweepS g (pF cu wi d 0 p.time sec) p.l c || (d.jibes && sweepS g (pF cu wi d 1 p.time sec) p.r c)
def rightS (c : Cell) : Bool := sweepS g (pF cu wi d 1 p.time sec) p.r c || (d.jibes && sweepS g (pF cu wi d 0 p.time sec) p.l c)
def beachS (c : Cell) : Bool := (hasB p.b c || sweepS g (fun b => stillP (pF cu wi d 0 p.time sec b)) p.l c) || sweepS g (fun b => stillP (pF cu wi d 1 p.time sec b)) p.r c
def offS : Bool := (p.off || (sweepO g (pF cu wi d 0 p.time sec) p.l || sweepO g (fun b => stillP (pF cu wi d 0 p.time sec b)) p.l)) || (sweepO g (pF cu wi d 1 p.time sec) p.r || sweepO g (fun b => stillP (pF cu wi d 1 p.time sec b)) p.r)
def stepQ : QP := ⟨p.time + sec, (runsR g (fun c => leftS g cu wi d p sec c && (hasB g.land c == false))).1, (runsR g (fun c => rightS g cu wi d p sec c && (hasB g.land c == false))).1, (runsR g (fun c => beachS g cu wi d p sec c && (hasB g.land c == true))).1, offS g cu wi d p sec⟩
def stepR : QP × Int := if 1073741824 < p.time + sec then (zQP, 4) else if (knownB cu wi d 0 p.time sec p.l && knownB cu wi d 1 p.time sec p.r) = false then (zQP, 7) else (stepQ g cu wi d p sec, 0)
end
def patR (g : Grid) (p : QP) : Bool := g.ok && decide (0 ≤ p.time ∧ p.time ≤ 1073741824) && regB g 0 p.l && regB g 1 p.r && regB g 2 p.b
def stepAllR (g : Grid) (cu wi : List Flow) (d : Drifter) (p : QP) (sec : Int) : QP × Int := if seaB g cu wi d sec && patR g p then stepR g cu wi d p sec else (zQP, 2)
/-- a patch that is handed back -/
def PatR (w0 w : World) (L : List HP) (q : QP × Int) (e : Ending) : Prop := ∃ va vb vc, e = .returned (.tuple #[.agg ⟨[.int .i64 q.1.time, va, vb, vc, .bool q.1.off]⟩, .int .i64 q.2]) ∧ Own w0 w (runRow va q.1.l :: runRow vb q.1.r :: runRow vc q.1.b :: L)
theorem PatR.zero {w0 w : World} {L : List HP} (H : Own w0 w L) (n : Int) : PatR w0 w L (zQP, n) (.returned (.tuple #[.agg ⟨[.int .i64 0, .slice none 0 0, .slice none 0 0, .slice none 0 0, .bool false]⟩, .int .i64 n])) :=
  ⟨_, _, _, rfl, ((H.nilRow 140 3).nilRow 140 3).nilRow 140 3⟩
/-- what of a patch is valid -/
theorem regB_ok {g : Grid} (hg : g.ok = true) (hs : g.W * g.H ≤ 4096) {i : Nat} {r : List Run} (h : regB g i r = true) : rightB g.W g.H r = true ∧ ∀ c, hasB r c = true → (hasB g.land c = decide (i = 2)) := by
  obtain ⟨hW, hH, hS, hgl⟩ := Grid.ok_b hg
  unfold regB at h
  simp only [Bool.and_eq_true, decide_eq_true_eq] at h
  obtain ⟨⟨h1, h2⟩, h3⟩ := h
  have hr := (checkedB_b h1).2 r (by simp)
  have hcr := canon_of_right hr
  have hcl := canon_of_right hgl
  refine ⟨hr, fun c hc => ?_⟩
  have hck : checkedB g [r, g.land] = true := by
    unfold checkedB
    rw [hg]
    simp [hr, hgl]
  have he : (setB g i r).1 = [] := List.eq_nil_of_length_eq_zero h3
  unfold setB at he
  by_cases hi : i = 2
  · rw [if_pos hi, withoutR_two] at he
    rw [decide_eq_true hi]
    unfold twoR at he
    rw [if_pos hck] at he
    obtain ⟨_, _, k3⟩ := runsR_small hg hs (fun c => twoB 2 (hasB r c) (hasB g.land c))
    cases hl : hasB g.land c with
    | true => rfl
    | false =>
      have := (k3 c).2 ⟨canon_inG hcr hc, by unfold twoB; simp [hc, hl]⟩
      rw [he] at this
      cases this
  · rw [if_neg hi, bothR_two] at he
    rw [decide_eq_false hi]
    unfold twoR at he
    rw [if_pos hck] at he
    obtain ⟨_, _, k3⟩ := runsR_small hg hs (fun c => twoB 1 (hasB r c) (hasB g.land c))
    cases hl : hasB g.land c with
    | false => rfl
    | true =>
      have := (k3 c).2 ⟨canon_inG hcr hc, by unfold twoB; simp [hc, hl]⟩
      rw [he] at this
      cases this
end Go.J

namespace Go.J
set_option linter.unusedSimpArgs false
set_option linter.unusedVariables false
open Go.RowKit
open Go.ChangeMaps (setBlock)
/-! ## an entry that is taken, and then stored into -/
/-- the entry of a key, by its stamp -/
def EntryAt {K : Type} (kev : K → Value) (es : Array MapEntry) (k : K) (st : Nat) : Prop := ∃ (j : Nat) (e : MapEntry), es.toList[j]? = some e ∧ e.key = kev k ∧ e.born = st
section
variable {K V : Type} [DecidableEq K] {kev : K → Value} {vev : V → Value} {P : Program} {kt et t : TypeId}
theorem mset_same {k : K} {v : V} : ∀ {m : List (K × V)}, mget m k = some v → mset m k v = m := by
  intro m
  induction m with
  | nil => intro h; cases h
  | cons p m ih =>
    intro h
    simp only [mget] at h
    simp only [mset]
    split at h
    · rename_i hp
      cases h
      rw [if_pos hp, ← hp]
    · rename_i hp
      rw [if_neg hp, ih h]
theorem mapEntry_own {w0 w : World} {L : List HP} (H : Own w0 w L) {i β : Nat} {m : List (K × V)} {z : V} (hu : P.underlying t = some (.map kt et)) (KT : KeyT P kt kev) (hz : ∀ w, (zeroValue et).run P w = .ok (vev z) w) (hi : L[i]? = some (tmap kev vev β m)) (k : K) :
    ∃ es clock st w', (Instr.mapEntry t (.map (some β)) (kev k)).run P w = .ok (.tuple #[vev ((mget m k).getD z), .int .i64 (st : Nat)]) w' ∧ MapIs kev vev es clock (mset m k ((mget m k).getD z)) ∧ EntryAt kev es k st ∧ Own w0 w' (L.set i (blk β (.map es clock))) := by
  obtain ⟨es, clock, hm, H1⟩ := H.openM hi
  have hil : i < L.length := (List.getElem?_eq_some_iff.1 hi).1
  have hi1 : (L.set i (blk β (.map es clock)))[i]? = some (blk β (.map es clock)) := List.getElem?_set_self hil
  have hb := (H1.get hi1).2
  rcases hm.find KT k w with ⟨h1, h2⟩ | ⟨j, e, p, h1, h2, h3, h4, h5, h6⟩
  · have hg : mget m k = none := mget_none.2 h2
    refine ⟨es.push ⟨kev k, vev z, clock⟩, clock + 1, clock, { w with heap := w.heap.setIfInBounds β (.map (es.push ⟨kev k, vev z, clock⟩) (clock + 1)) }, ?_, ?_, ⟨es.size, ⟨kev k, vev z, clock⟩, by simp, rfl, rfl⟩, ?_⟩
    · rw [hg]
      simp [Instr.mapEntry, run_underlying hu, MapKept.run_getObj_map hb, KT.check false k w, h1, hz, MapKept.run_setObj_map _ hb, Result.andThen, goInt]
    · rw [hg]
      simp only [Option.getD_none]
      rw [mset_new k z h2]
      refine ⟨by simp [hm.enc], ?_, ?_, ?_⟩
      · rw [List.map_append, List.nodup_append]
        refine ⟨hm.nodup, by simp, ?_⟩
        intro a ha b hb' e
        simp at hb'
        subst e hb'
        exact h2 ha
      · rw [Array.toList_push, List.map_append, List.nodup_append]
        refine ⟨hm.born, by simp, ?_⟩
        intro a ha b hb' e
        simp at hb'
        subst e hb'
        obtain ⟨x, hx, rfl⟩ := List.mem_map.1 ha
        exact absurd (hm.old x hx) (Nat.lt_irrefl _)
      · intro x hx
        rw [Array.toList_push, List.mem_append] at hx
        rcases hx with hx | hx
        · exact Nat.lt_succ_of_lt (hm.old x hx)
        · simp at hx; subst hx; exact Nat.lt_succ_self _
    · have H2 := H1.putMap hi1 (.map (es.push ⟨kev k, vev z, clock⟩) (clock + 1))
      rw [List.set_set] at H2
      exact H2
  · have hg := mget_at hm.nodup h4 h5
    have hj : es[j]? = some e := by simpa using h2
    have hmod : es.modify j (fun e' => { e' with key := kev k }) = es := by
      apply Array.ext'
      rw [Array.toList_modify, Go.ChangeMaps.modify_eq_set _ _ _ _ h2]
      apply List.ext_getElem?
      intro q
      by_cases hq : q = j
      · subst hq
        rw [List.getElem?_set_self ((List.getElem?_eq_some_iff.1 h2).1), h2, ← h3]
      · rw [List.getElem?_set_ne (fun h => hq h.symm)]
    refine ⟨es, clock, e.born, { w with heap := w.heap.setIfInBounds β (.map es clock) }, ?_, ?_, ⟨j, e, h2, h3, rfl⟩, ?_⟩
    · rw [hg]
      simp [Instr.mapEntry, run_underlying hu, MapKept.run_getObj_map hb, KT.check false k w, h1, hj, h3, KT.stays k w, hmod, MapKept.run_setObj_map _ hb, Result.andThen, goInt, h6]
    · rw [hg]
      simp only [Option.getD_some]
      rw [mset_same hg]
      exact hm
    · have H2 := H1.putMap hi1 (.map es clock)
      rw [List.set_set] at H2
      exact H2
theorem findIdx_born {es : Array MapEntry} {j : Nat} {e : MapEntry} (hn : (es.toList.map (·.born)).Nodup) (hj : es.toList[j]? = some e) : es.findIdx? (fun x => (x.born : Int) == (e.born : Int)) = some j := by
  obtain ⟨es⟩ := es
  simp only [List.findIdx?_toArray] at hj hn ⊢
  rw [List.findIdx?_eq_some_iff_getElem]
  obtain ⟨hlt, he⟩ := List.getElem?_eq_some_iff.1 hj
  refine ⟨hlt, by rw [he]; simp, fun q hq => ?_⟩
  intro hh
  have h0 : (es[q].born : Int) = e.born := by simpa using hh
  have hh' : es[q].born = e.born := by omega
  have := (List.pairwise_iff_getElem.1 hn) q j (by rw [List.length_map]; omega) (by rw [List.length_map]; omega) hq
  apply this
  rw [List.getElem_map, List.getElem_map, he, hh']
theorem entryStore_own {w0 w : World} {L : List HP} (H : Own w0 w L) {i β : Nat} {es : Array MapEntry} {clock st : Nat} {m : List (K × V)} {k : K} (KT : KeyT P kt kev) (hM : MapIs kev vev es clock m) (hE : EntryAt kev es k st) (hi : L[i]? = some (blk β (.map es clock))) (v : V) :
    ∃ w', (Instr.entryStore t (.map (some β)) (.int .i64 (st : Nat)) (vev v)).run P w = .ok () w' ∧ Own w0 w' (L.set i (tmap kev vev β (mset m k v))) := by
  obtain ⟨j, e, h2, h3, rfl⟩ := hE
  have hb := (H.get hi).2
  have hil : i < L.length := (List.getElem?_eq_some_iff.1 hi).1
  have hlist : (es.modify j (fun e' => { e' with val := vev v })).toList = es.toList.set j { e with val := vev v } := by rw [Array.toList_modify, Go.ChangeMaps.modify_eq_set _ _ _ _ h2]
  have hjl : j < es.toList.length := (List.getElem?_eq_some_iff.1 h2).1
  obtain ⟨p, g1, g2, g3⟩ := hM.at h2
  have hpk : p.1 = k := KT.inj (g2.symm.trans h3)
  refine ⟨{ w with heap := w.heap.setIfInBounds β (.map (es.modify j (fun e' => { e' with val := vev v })) clock) }, ?_, ?_⟩
  · simp [Instr.entryStore, MapKept.run_getObj_map hb, asInt, asIntOf, findIdx_born hM.born h2, MapKept.run_setObj_map _ hb, Result.andThen]
  · have H2 := H.putMap hi (.map (es.modify j (fun e' => { e' with val := vev v })) clock)
    have H3 := H2.closeM (kev := kev) (vev := vev) (m := mset m k v) (List.getElem?_set_self hil) ?_
    · rw [List.set_set] at H3; exact H3
    · refine ⟨?_, mset_nodup k v m hM.nodup, ?_, ?_⟩
      · rw [hlist, mset_at k v hM.nodup g1 hpk, List.map_set, List.map_set, hM.enc, h3]
      · rw [hlist, List.map_set]
        have : (es.toList.map (·.born)).set j e.born = es.toList.map (·.born) := by
          apply List.ext_getElem?
          intro q
          by_cases hq : q = j
          · subst hq; rw [List.getElem?_set_self (by simpa using hjl), List.getElem?_map, h2]; rfl
          · rw [List.getElem?_set_ne (fun h => hq h.symm)]
        simp only
        rw [this]
        exact hM.born
      · intro x hx
        rw [hlist] at hx
        rcases List.mem_or_eq_of_mem_set hx with hx | rfl
        · exact hM.old x hx
        · exact hM.old e (List.mem_of_getElem? h2)
end
section
variable {K V : Type} [DecidableEq K] {kev : K → Value} {vev : V → Value} {kt et t : TypeId}
variable {P : Program} {N : Sz} {ops : Array Oper} {Q : Exit → Act → World → Prop} {rest : List Oper} {fr : Fr} {w w0 : World} {L : List HP}
  {d : Option Tmp} {ty : TypeId} {pos : String} {af : Array Edge}
theorem JL.mapEntry {mo x : Operand} {β : Nat} {m : List (K × V)} (i : Nat) (H : Own w0 w L) (k : K) (z : V) (hm : fr.ev mo = some (.map (some β))) (hx : fr.ev x = some (kev k)) (hu : P.underlying t = some (.map kt et)) (KT : KeyT P kt kev) (hz : ∀ w, (zeroValue et).run P w = .ok (vev z) w)
    (hi : L[i]? = some (tmap kev vev β m)) (hd : Fr.fits N d = true)
    (kk : ∀ es clock (st : Nat) w', MapIs kev vev es clock (mset m k ((mget m k).getD z)) → EntryAt kev es k st → Own w0 w' (L.set i (blk β (.map es clock))) → JL P N ops Q rest (fr.put d (.tuple #[vev ((mget m k).getD z), .int .i64 st])) w') : JL P N ops Q (⟨d, .mapEntry t mo x, ty, pos, af, none⟩ :: rest) fr w := by
  obtain ⟨es, clock, st, w', h1, h2, h3, h4⟩ := mapEntry_own H hu KT hz hi k
  exact JL.val rfl hd (fun a Ha => by simp only [execOp, Ha.eval hm, Ha.eval hx]; simp [h1]) (kk es clock st w' h2 h3 h4)
theorem JL.entryStore {mo x y : Operand} {β : Nat} {es : Array MapEntry} {clock st : Nat} {m : List (K × V)} (i : Nat) (H : Own w0 w L) (k : K) (v : V) (hm : fr.ev mo = some (.map (some β))) (hx : fr.ev x = some (.int .i64 (st : Nat))) (hy : fr.ev y = some (vev v)) (KT : KeyT P kt kev)
    (hM : MapIs kev vev es clock m) (hE : EntryAt kev es k st) (hi : L[i]? = some (blk β (.map es clock))) (kk : ∀ w', Own w0 w' (L.set i (tmap kev vev β (mset m k v))) → JL P N ops Q rest fr w') : JL P N ops Q (⟨none, .entryStore t mo x y, ty, pos, af, none⟩ :: rest) fr w := by
  obtain ⟨w', h1, h2⟩ := entryStore_own (t := t) H KT hM hE hi v
  refine JL.unit rfl rfl (fun a Ha => ?_) (kk w' h2)
  simp only [execOp, Ha.eval hm, Ha.eval hx, Ha.eval hy]
  simp [h1]
/-- x[l:h:h], of a slice -/
theorem run_slice3 {t e : TypeId} {a : Option Addr} {n cap l h sz : Nat} {b : Bool} {k0 k1 k2 : IntKind} (hu : P.underlying t = some (.slice e)) (hs : tySh P e = some (b, sz)) (h1 : l ≤ h) (h2 : h ≤ cap) (w : World) :
    (Instr.slice t (.slice a n cap) (some (.int k0 l)) (some (.int k1 h)) (some (.int k2 h))).run P w = .ok (.slice (if h = l then a else a.map (·.add (l * sz))) (h - l) (h - l)) w := by
  have e1 : (l : Int) ≤ (h : Int) := by omega
  have e2 : (h : Int) ≤ (cap : Int) := by omega
  have e3 : ¬ ((l : Int) < 0) := by omega
  have e4 : ¬ ((h : Int) < 0) := by omega
  simp only [Instr.slice]
  rw [Sem.run_bind, run_underlying hu]
  simp only [Result.andThen]
  simp [Instr.sliceBounds, Instr.sliceBound, asIntOf, e1, e2, e3, e4, (tySh_agg hs w).2]
  exact fun h => absurd h (by omega)
theorem JL.slice3 {x y z u : Operand} {t e : TypeId} {a : Option Addr} {n cap l h sz : Nat} {b : Bool} {k0 k1 k2 : IntKind} (hx : fr.ev x = some (.slice a n cap)) (hy : fr.ev y = some (.int k0 l)) (hz : fr.ev z = some (.int k1 h)) (hu' : fr.ev u = some (.int k2 h)) (hu : P.underlying t = some (.slice e)) (hs : tySh P e = some (b, sz)) (h1 : l ≤ h) (h2 : h ≤ cap) (hd : Fr.fits N d = true)
    (k : JL P N ops Q rest (fr.put d (.slice (if h = l then a else a.map (·.add (l * sz))) (h - l) (h - l))) w) : JL P N ops Q (⟨d, .slice t x (some y) (some z) (some u), ty, pos, af, none⟩ :: rest) fr w :=
  JL.val rfl hd (fun a' H => by
    simp only [execOp, Option.map_some, Option.map_none, H.eval hx, H.eval hy, H.eval hz, H.eval hu']
    simp only [Instr.sliceAt]
    rw [Sem.run_bind, Sem.run_bind, run_underlying hu]
    simp only [Result.andThen]
    rw [run_slice3 hu hs h1 h2]
    rfl) k
end
end Go.J

namespace Go.J
set_option linter.unusedSimpArgs false
set_option linter.unusedVariables false
open Go.RowKit
/-! ## a loop whose rounds range over functions: its marks grow -/
section
variable {P : Program} {N : Sz} {Q : Exit → Act → World → Prop} {fr : Fr} {w : World}
theorem Ex.againM {ι : Type} {Nf : ι → Sz} {F : ι → Fr} {I : ι → World → Prop} {m : ι → Nat} {x : ι} (x' : ι) (hN : N = Nf x') (hs : fr.sub (F x')) (hI : I x' w) (hm : m x' < m x) :
    Ex N (Exit.then (fun a w' => ∃ x', Has (Nf x') (F x') a ∧ I x' w' ∧ m x' < m x) Q) .normal fr w := fun _ H => ⟨x', by subst hN; exact H.sub hs, hI, hm⟩
theorem JC.loopM {ι : Type} {c : Code} (Nf : ι → Sz) (F : ι → Fr) (I : ι → World → Prop) (m : ι → Nat) (x0 : ι) (hN : N = Nf x0) (hro : ∀ x, (Nf x).ro = N.ro) (h0 : fr.sub (F x0)) (hI : I x0 w)
    (round : ∀ x w, I x w → JC P (Nf x) c (Exit.then (fun a w' => ∃ x', Has (Nf x') (F x') a ∧ I x' w' ∧ m x' < m x) Q) (F x) w) : JC P N (.loop c) Q fr w := by
  intro a H
  have key : ∀ n x a w, m x < n → Has (Nf x) (F x) a → I x w → Code.roundsIn (wideR N.ro) 0 P c Q n a w := by
    intro n
    induction n with
    | zero => intro x a w h; omega
    | succ n ih =>
      intro x a w h Ha Hw
      rw [roundsIn_succ]
      have hr := round x w Hw a Ha
      rw [hro x] at hr
      refine Code.wpIn_mono (fun e a' w' q => ?_) hr
      cases e with
      | normal => obtain ⟨x', h1, h2, h3⟩ := q; exact ih x' a' w' (by omega) h1 h2
      | _ => exact q
  exact wpIn_loop_rounds (m x0 + 1) (key _ x0 a w (by omega) (by rw [← hN]; exact H.sub h0) hI)
end
/-! ## x[0:] -/
section
variable {P : Program} {N : Sz} {ops : Array Oper} {Q : Exit → Act → World → Prop} {rest : List Oper} {fr : Fr} {w w0 : World} {L : List HP}
  {d : Option Tmp} {ty : TypeId} {pos : String} {af : Array Edge}
theorem run_sliceFrom0 {t e : TypeId} {a : Option Addr} {n cap sz : Nat} {b : Bool} {k : IntKind} (hu : P.underlying t = some (.slice e)) (hs : tySh P e = some (b, sz)) (w : World) :
    (Instr.slice t (.slice a n cap) (some (.int k 0)) none none).run P w = .ok (.slice a n cap) w := by
  simp only [Instr.slice]
  rw [Sem.run_bind, run_underlying hu]
  simp only [Result.andThen]
  have h0 : (0 : Int) ≤ (n : Int) := by omega
  cases a with
  | none => simp [Instr.sliceBounds, Instr.sliceBound, asIntOf, h0, (tySh_agg hs w).2, Addr.add]
  | some a => simp [Instr.sliceBounds, Instr.sliceBound, asIntOf, h0, (tySh_agg hs w).2, Addr.add]
theorem JL.sliceFrom0 {x y : Operand} {t e : TypeId} {a : Option Addr} {n cap sz : Nat} {b : Bool} {kd : IntKind} (hx : fr.ev x = some (.slice a n cap)) (hy : fr.ev y = some (.int kd 0)) (hu : P.underlying t = some (.slice e)) (hs : tySh P e = some (b, sz)) (hd : Fr.fits N d = true)
    (k : JL P N ops Q rest (fr.put d (.slice a n cap)) w) : JL P N ops Q (⟨d, .slice t x (some y) none none, ty, pos, af, none⟩ :: rest) fr w :=
  JL.val rfl hd (fun a H => by
    simp only [execOp, Option.map_some, Option.map_none, H.eval hx, H.eval hy]
    simp only [Instr.sliceAt]
    rw [Sem.run_bind, Sem.run_bind, run_underlying hu]
    simp only [Result.andThen]
    rw [run_sliceFrom0 hu hs]
    rfl) k
end
section
variable {P : Program} {N : Sz} {ops : Array Oper} {Q : Exit → Act → World → Prop} {n : Nat} {es : List Nat} {Ls : Nat → List HP} {w0 : World} {fr0 : Nat → Fr} {Z : Fr → World → Prop}
variable {d : Option Tmp} {ty : TypeId} {pos : String} {af : Array Edge} {r : List Oper} {i : Nat} {ks : List Kn} {L : List HP}
theorem JD.sliceFrom0 {x y : Operand} {t e : TypeId} {a : Option Addr} {m cap sz : Nat} {b : Bool} {kd : IntKind} (hx : (frDet (depsOf af) ks (fr0 i)).ev x = some (.slice a m cap)) (hy : (frDet (depsOf af) ks (fr0 i)).ev y = some (.int kd 0)) (hu : P.underlying t = some (.slice e)) (hs : tySh P e = some (b, sz)) (hd : Fr.fits N d = true)
    (k : JD P N ops Q n es Ls w0 fr0 Z r (i + 1) (.det i d (.slice a m cap) :: ks)) (he : neB es i = true := by rfl) (hs0 : noS ks i = true := by rfl) : JD P N ops Q n es Ls w0 fr0 Z (⟨d, .slice t x (some y) none none, ty, pos, af, none⟩ :: r) i ks :=
  JD.det _ he hs0 (fun _ _ _ _ _ => JL.sliceFrom0 hx hy hu hs hd (JL.one (o := ⟨d, .slice t x (some y) none none, ty, pos, af, none⟩) (Below.refl _ _))) k
end
/-- a slice that is nil -/
theorem eqNilS {P : Program} {t e : TypeId} (ht : P.underlying t = some (.slice e)) (a : Option Addr) (n c : Nat) : EqAt2 P .eql t (.slice a n c) (.slice none 0 0) (.bool a.isNone) :=
  ⟨fun x y w => by cases a <;> simp [eqGuard], fun w => by
    have h : (Op.equal t (.slice a n c) (.slice none 0 0)).run P w = .ok a.isNone w := by
      unfold Op.equal Op.maxDepth
      rw [show (10000 : Nat) = 9999 + 1 from rfl]
      unfold Op.equalIn
      rw [Sem.run_bind, run_underlying ht]
      cases a <;> simp [Result.andThen]
    simp [binOp, h]⟩
end Go.J

namespace Go.J
open Go.RowKit Go.Proofs
set_option maxRecDepth 8000
set_option linter.unusedSimpArgs false
set_option linter.unusedVariables false
/-! drift: chunks; pushes as keys -/
theorem chunk_c (a : Option Addr) (n c : Nat) (w : World) : Calls Try.prog 281 #[.slice a n c, .int .i64 8192] w (fun e w' => ∃ b2 b3, e = .returned (.func (.func 297) #[] ⟨[.pointer (some ⟨b2, 0, none⟩), .pointer (some ⟨b3, 0, none⟩)]⟩) ∧ Own w w' [blk b3 (.cells ⟨[.int .i64 8192]⟩ 3 (0, 0)), blk b2 (.cells ⟨[.slice a n c]⟩ 68 (0, 0))]) := by
  refine calls_J (args := [.slice a n c, .int .i64 8192]) Try.func281 rfl Try.ntmps281 rfl ?_
  have H := Own.start w
  ((repeat refine JC.seq ?_); refine JC.region ?_)
  refine JL.box H rfl rfl rfl ?_
  intro b2 w1 H
  refine JL.box H rfl rfl rfl ?_
  intro b3 w2 H
  refine JL.pure rfl rfl ?_
  refine JL.nil ?_
  ((repeat refine Ex.normal_block ?_); refine Ex.next ?_)
  ((repeat refine JC.seq ?_); refine JC.region ?_)
  refine JL.loadB 0 H rfl sh3 rfl rfl rfl ?_
  refine JL.pure rfl rfl ?_
  refine JL.re 6 rfl (v' := .bool false) rfl ?_
  refine JL.nil ?_
  ((repeat refine Ex.normal_block ?_); refine Ex.next ?_)
  ((repeat refine JC.seq ?_); refine JC.cond rfl (fun h => by cases h) (fun _ => ?_))
  ((repeat refine JC.seq ?_); refine JC.skip ?_)
  ((repeat refine Ex.normal_block ?_); refine Ex.next ?_)
  ((repeat refine JC.seq ?_); refine JC.region ?_)
  refine JL.pure rfl rfl ?_
  refine JL.pure rfl rfl ?_
  refine JL.nil ?_
  ((repeat refine Ex.normal_block ?_); refine Ex.next ?_)
  ((repeat refine JC.seq ?_); refine JC.ret ?_)
  (repeat (first | refine Ex.ret_then ?_ | refine Ex.ret_block ?_))
  refine Ex.ret1 rfl (.tmp rfl) ⟨_, _, rfl, H⟩
theorem hb297 : hasBody Try.prog 297 = true := by kernel_rfl
theorem chunk_iter (w0 : World) (b2 b3 : Nat) (a : Option Addr) (n c : Nat) (hn : 1 ≤ n ∧ n ≤ 8192) (hc : n ≤ c) :
    Iter Try.prog 297 [.pointer (some ⟨b2, 0, none⟩), .pointer (some ⟨b3, 0, none⟩)] (fun _ : Unit => [.slice a n n]) [()] w0 [] (fun w => LdAt w b2 0 (false, 1) (.slice a n c) ∧ LdAt w b3 0 (false, 1) (.int .i64 8192)) := by
  intro l T Tx hrd0 hy w L X hT H
  replace H : Own w0 w (X ++ L) := H
  refine calls_J (args := [.func (.yield l) #[] #[], .pointer (some ⟨b2, 0, none⟩), .pointer (some ⟨b3, 0, none⟩)]) Try.func297 rfl Try.ntmps297 rfl ?_
  ((repeat refine JC.seq ?_); refine JC.region ?_)
  refine JL.pure rfl rfl ?_
  refine JL.nil ?_
  ((repeat refine Ex.normal_block ?_); refine Ex.next ?_)
  ((repeat refine JC.seq ?_); refine JC.block ?_)
  ((repeat refine JC.seq ?_); refine JC.loop (ι := Int × List HP) (fun x => [(0, .func (.yield l) #[] #[]), (1, .pointer (some ⟨b2, 0, none⟩)), (2, .pointer (some ⟨b3, 0, none⟩)), (4, .int .i64 x.1)])
    (fun x wr => ((x.1 = 0 ∧ T [] x.2) ∨ (x.1 = 8192 ∧ T [()] x.2)) ∧ Own w0 wr (X ++ x.2)) (fun x => (8192 - x.1).toNat) (0, L) ?_ ?_ ?_)
  · exact ⟨rfl, rfl, rfl, rfl, trivial⟩
  · exact ⟨.inl ⟨rfl, hT⟩, H⟩
  · rintro ⟨i, L⟩ wr ⟨hT, H⟩
    simp only at hT H
    have hrd : ∀ w, Own w0 w (X ++ L) → LdAt w b2 0 (false, 1) (.slice a n c) ∧ LdAt w b3 0 (false, 1) (.int .i64 8192) := fun w h => hT.elim (fun t => hrd0 _ _ _ _ t.2 h) (fun t => hrd0 _ _ _ _ t.2 h)
    show JC _ _ _ _ [(0, .func (.yield l) #[] #[]), (1, .pointer (some ⟨b2, 0, none⟩)), (2, .pointer (some ⟨b3, 0, none⟩)), (4, .int .i64 i)] _
    ((repeat refine JC.seq ?_); refine JC.region ?_)
    refine JL.pure rfl rfl ?_
    refine JL.load rfl sh68 ((hrd _ H).1) rfl ?_
    refine JL.len rfl Try.underlying68 rfl ?_
    refine JL.pure rfl rfl ?_
    refine JL.nil ?_
    ((repeat refine Ex.normal_block ?_); refine Ex.next ?_)
    ((repeat refine JC.seq ?_); refine JC.cond rfl ?_ ?_)
    · intro h9
      (try simp only [Bool.not_eq_true', Bool.not_eq_false', decide_eq_true_eq, decide_eq_false_iff_not] at h9)
      have hi : i = 0 ∧ T [] L := hT.resolve_right fun h => by have := h.1; omega
      obtain ⟨rfl, hT0⟩ := hi
      ((repeat refine JC.seq ?_); refine JC.skip ?_)
      ((repeat refine Ex.normal_block ?_); refine Ex.next ?_)
      ((repeat refine JC.seq ?_); refine JC.block ?_)
      ((repeat refine JC.seq ?_); refine JC.draw 7 H mixed (by kernel_rfl) rfl ?_)
      refine JD.load rfl sh3 (fun w hw => (hrd _ hw).2) rfl ?_
      refine JD.load rfl sh68 (fun w hw => (hrd _ hw).1) rfl ?_
      refine JD.pure rfl rfl ?_
      refine JD.sliceFrom0 rfl rfl Try.underlying68 sh62 rfl ?_
      refine JD.len rfl Try.underlying68 rfl ?_
      refine JD.pure rfl rfl ?_
      refine JD.pure rfl rfl ?_
      refine JD.nil ?_
      intro w1 H
      show JL _ _ _ _ _ _ _
      refine JL.nil ?_
      ((repeat refine Ex.normal_block ?_); refine Ex.next ?_)
      ((repeat refine JC.seq ?_); refine JC.region ?_)
      refine JL.re 5 rfl (v' := .int .i64 (n : Nat)) (congrArg (Value.int .i64) (by omega)) ?_
      refine JL.pure rfl rfl ?_
      refine JL.load rfl sh68 ((hrd _ H).1) rfl ?_
      refine JL.pure rfl rfl ?_
      refine JL.pure rfl rfl ?_
      refine JL.pure rfl rfl ?_
      refine JL.arith rfl (by unfold In64; omega) rfl ?_
      refine JL.pure rfl rfl ?_
      refine JL.pure rfl rfl ?_
      refine JL.arith rfl (by unfold In64; omega) rfl ?_
      refine JL.re 24 rfl (v' := .int .i64 (n : Nat)) (congrArg (Value.int .i64) (by omega)) ?_
      refine JL.re 27 rfl (v' := .int .i64 (n : Nat)) (congrArg (Value.int .i64) (by omega)) ?_
      refine JL.slice3 (l := 0) (h := n) rfl rfl rfl rfl Try.underlying68 sh62 (Nat.zero_le _) hc rfl ?_
      refine JL.re 28 rfl (v' := .slice a n n) (by rw [if_neg (by omega)]; cases a <;> rfl) ?_
      refine JL.yield rfl rfl rfl (hy [] () L X _ (List.prefix_refl _) hT0 H) ?_
      rintro _ w2 ⟨bb, L9, rfl, hT9, H⟩
      refine ⟨_, rfl, ?_⟩
      refine JL.pure rfl rfl ?_
      refine JL.nil ?_
      ((repeat refine Ex.normal_block ?_); refine Ex.next ?_)
      ((repeat refine JC.seq ?_); refine JC.cond rfl ?_ ?_)
      · intro h30
        (try simp only [Bool.not_eq_true', Bool.not_eq_false', decide_eq_true_eq, decide_eq_false_iff_not] at h30)
        have h30 : bb = false := by simpa using h30
        ((repeat refine JC.seq ?_); refine JC.ret ?_)
        (repeat (first | refine Ex.ret_then ?_ | refine Ex.ret_block ?_))
        refine Ex.ret0 rfl ⟨⟨_, rfl⟩, L9, H, .inr ⟨[()], List.prefix_refl _, ?_⟩⟩
        rw [h30] at hT9
        exact hT9
      · intro h30
        (try simp only [Bool.not_eq_true', Bool.not_eq_false', decide_eq_true_eq, decide_eq_false_iff_not] at h30)
        have h30 : bb = true := by simpa using h30
        have hT1 : T [()] L9 := by rw [h30] at hT9; exact hT9
        have hrd9 : ∀ w, Own w0 w (X ++ L9) → LdAt w b2 0 (false, 1) (.slice a n c) ∧ LdAt w b3 0 (false, 1) (.int .i64 8192) := fun w h => hrd0 _ _ _ _ hT1 h
        ((repeat refine JC.seq ?_); refine JC.skip ?_)
        ((repeat refine Ex.normal_block ?_); refine Ex.next ?_)
        ((repeat refine JC.seq ?_); refine JC.region ?_)
        refine JL.pure rfl rfl ?_
        refine JL.load rfl sh3 ((hrd9 _ H).2) rfl ?_
        refine JL.arith rfl (by unfold In64; omega) rfl ?_
        refine JL.pure rfl rfl ?_
        refine JL.nil ?_
        (repeat refine Ex.normal_block ?_)
        refine Ex.again (8192, L9) ⟨rfl, rfl, rfl, rfl, trivial⟩ ⟨.inr ⟨rfl, hT1⟩, H⟩ (by simp only; omega)
    · intro h9
      (try simp only [Bool.not_eq_true', Bool.not_eq_false', decide_eq_true_eq, decide_eq_false_iff_not] at h9)
      have hi : i = 8192 ∧ T [()] L := hT.resolve_left fun h => by have := h.1; omega
      ((repeat refine JC.seq ?_); refine JC.exit ?_)
      (repeat (first | refine Ex.exit_then ?_ | refine Ex.exit_miss (by decide) ?_))
      refine Ex.exit_hit ?_
      ((repeat refine Ex.normal_block ?_); refine Ex.end_ ?_)
      refine Ex.ret0 rfl ⟨⟨_, rfl⟩, L, H, .inl hi.2⟩
end Go.J

namespace Go.J
open Go.RowKit Go.Proofs
set_option maxRecDepth 8000
set_option linter.unusedSimpArgs false
set_option linter.unusedVariables false
/-! drift: pushes as keys of a map -/
theorem equal_push0 (a b c d x y z u : Int) (w : World) : (Op.equal 54 (.agg ⟨[.int .i64 a, .int .i64 b, .int .i64 c, .int .i64 d]⟩) (.agg ⟨[.int .i64 x, .int .i64 y, .int .i64 z, .int .i64 u]⟩)).run Try.prog w = .ok (decide ((a = x ∧ b = y) ∧ c = z ∧ d = u)) w := by
  have u23 := Try.underlying23
  have a23 := Try.isAgg23
  have z23 := Try.sizeOf23
  unfold Op.equal Op.maxDepth
  rw [show (10000 : Nat) = 9999 + 1 from rfl]
  rw [run_equalIn_agg w 9999 54 _ _ (by kernel_rfl) (by kernel_rfl)]
  simp only [Program.fieldsOf, Try.underlying54]
  go_simp
  by_cases h1 : a = x <;> by_cases h2 : b = y <;> by_cases h3 : c = z <;> by_cases h4 : d = u <;> simp [h1, h2, h3, h4]
theorem check_spot (n : Nat) (em : Bool) (a b : Int) (w : World) : (Instr.checkKey em (n + 2) 23 (.agg ⟨[.int .i64 a, .int .i64 b]⟩)).run Try.prog w = .ok () w := by
  have u3 := Try.underlying3
  have a3 := Try.isAgg3
  have z3 := Try.sizeOf3
  unfold Instr.checkKey
  rw [Sem.run_bind, run_underlying Try.underlying23]
  simp only [Result.andThen]
  go_simp
  unfold Instr.checkKey
  go_simp
theorem check_push0 (em : Bool) (a b c d : Int) (w : World) : (Instr.checkKey em 10000 54 (.agg ⟨[.int .i64 a, .int .i64 b, .int .i64 c, .int .i64 d]⟩)).run Try.prog w = .ok () w := by
  have u23 := Try.underlying23
  have a23 := Try.isAgg23
  have z23 := Try.sizeOf23
  rw [show (10000 : Nat) = 9997 + 2 + 1 from rfl]
  unfold Instr.checkKey
  rw [Sem.run_bind, run_underlying Try.underlying54]
  simp only [Result.andThen]
  have e1 := check_spot 9997 em a b w
  have e2 := check_spot 9997 em c d w
  go_simp
theorem bits_push0 (a b c d : Int) : Instr.sameBits 10000 (.agg ⟨[.int .i64 a, .int .i64 b, .int .i64 c, .int .i64 d]⟩) (.agg ⟨[.int .i64 a, .int .i64 b, .int .i64 c, .int .i64 d]⟩) = true := by
  rw [show (10000 : Nat) = 9998 + 1 + 1 from rfl]
  simp [Instr.sameBits]
theorem keyPush : KeyT Try.prog 54 Push.ev := KeyT.agg Try.underlying54 (fun {a b} h => by obtain ⟨⟨_, _⟩, _, _⟩ := a; obtain ⟨⟨_, _⟩, _, _⟩ := b; simp [Push.ev] at h; simp [h]) (fun em k w => check_push0 em _ _ _ _ w)
  (fun a b w => by
    have := equal_push0 a.Low.X a.Low.Y a.High.X a.High.Y b.Low.X b.Low.Y b.High.X b.High.Y w
    rw [show (decide (a = b)) = decide ((a.Low.X = b.Low.X ∧ a.Low.Y = b.Low.Y) ∧ a.High.X = b.High.X ∧ a.High.Y = b.High.Y) by obtain ⟨⟨_, _⟩, _, _⟩ := a; obtain ⟨⟨_, _⟩, _, _⟩ := b; simp]
    exact this) (fun k => bits_push0 _ _ _ _)
end Go.J

namespace Go.J
open Go.RowKit Go.Proofs
set_option maxRecDepth 8000
set_option linter.unusedSimpArgs false
set_option linter.unusedVariables false
/-! drift: cells by their pushes -/
structure PC where
  v : Value
  l : List Cell
def zPC : PC := ⟨.slice none 0 0, []⟩
def Push.cs (p : Push) : List Value := [.int .i64 p.Low.X, .int .i64 p.Low.Y, .int .i64 p.High.X, .int .i64 p.High.Y]
def rowP (x : Push × PC) : HP := cellRow x.2.v x.2.l
theorem zero68 : ∀ w, (zeroValue 68).run Try.prog w = .ok zPC.v w := fun w => by
  obtain ⟨z, h1, h2⟩ := tyZero_run (P := Try.prog) (t := 68) (l := [.slice none 0 0]) (by kernel_rfl) w
  have : z = .slice none 0 0 := by
    cases z <;> simp_all [Value.cells]
  rw [h1, this]
  rfl
theorem mset_mset {K V : Type} [DecidableEq K] (k : K) (v u : V) : ∀ m : List (K × V), mset (mset m k u) k v = mset m k v := by
  intro m
  induction m with
  | nil => simp [mset]
  | cons p m ih =>
    simp only [mset]
    split
    · simp [mset]
    · rename_i h
      simp only [mset]
      rw [if_neg h, ih]
theorem mget_perm {K V : Type} [DecidableEq K] {k : K} {x : V} : ∀ {m : List (K × V)}, mget m k = some x → m.Perm ((k, x) :: mdel m k) := by
  intro m
  induction m with
  | nil => intro h; cases h
  | cons p m ih =>
    intro h
    simp only [mget] at h
    simp only [mdel]
    split at h
    · rename_i hp
      cases h
      rw [if_pos hp, ← hp]
    · rename_i hp
      rw [if_neg hp]
      exact ((ih h).cons p).trans (List.Perm.swap _ _ _)
theorem mset_perm {K V : Type} [DecidableEq K] (k : K) (v : V) : ∀ m : List (K × V), (mset m k v).Perm ((k, v) :: mdel m k) := by
  intro m
  induction m with
  | nil => exact List.Perm.refl _
  | cons p m ih =>
    simp only [mset, mdel]
    split
    · exact List.Perm.refl _
    · exact (ih.cons p).trans (List.Perm.swap _ _ _)
theorem Own.takeR {w0 w : World} {L : List HP} {m : List (Push × PC)} (H : Own w0 w (bag (m.map rowP) :: L)) (p : Push) :
    Own w0 w (cellRow ((mget m p).getD zPC).v ((mget m p).getD zPC).l :: bag ((mdel m p).map rowP) :: L) := by
  cases h : mget m p with
  | none =>
    rw [mdel_new p (mget_none.1 h)]
    exact H.nilRow 62 2
  | some x =>
    have H1 := H.unpack.perm (((mget_perm h).map rowP).append_right L)
    have H2 : Own w0 w (rowP (p, x) :: ((mdel m p).map rowP ++ L)) := H1
    have H3 := H2.perm List.perm_middle.symm
    exact H3.pack.perm (List.Perm.swap _ _ _)
theorem Own.putR {w0 w : World} {L : List HP} {m : List (Push × PC)} {p : Push} {v : Value} {l : List Cell} (H : Own w0 w (cellRow v l :: bag ((mdel m p).map rowP) :: L)) : Own w0 w (bag ((mset m p ⟨v, l⟩).map rowP) :: L) := by
  have H1 := (H.perm (List.Perm.swap _ _ _)).unpack
  have H2 : Own w0 w ((rowP (p, ⟨v, l⟩) :: (mdel m p).map rowP) ++ L) := H1.perm List.perm_middle
  have H3 := H2.perm ((((mset_perm p (⟨v, l⟩ : PC) m).map rowP).symm).append_right L)
  exact H3.pack
theorem Own.row_cap {w0 w : World} {L : List HP} (H : Own w0 w L) {j : Nat} {e : TypeId} {sz : Nat} {v : Value} {n : Nat} {xs : List Value} (hi : L[j]? = some (row e sz v n xs)) (h0 : 0 < n) : ∃ g c, v = .slice (some g) n c ∧ n ≤ c := by
  obtain ⟨_, h⟩ := H.row_shape hi
  rcases h with ⟨_, h⟩ | ⟨g, cap, cur, h1, h2, _⟩
  · omega
  · exact ⟨_, _, h1, h2⟩
theorem Sl.recap {α : Type} {ev : α → Value} {sh : Bool × Nat} {w : World} {a : Option Addr} {n c c' : Nat} {xs : List α} (h : Sl ev sh w (.slice a n c) xs) : Sl ev sh w (.slice a n c') xs := by
  obtain ⟨h1, a', c2, h2, h3⟩ := h
  cases h2
  exact ⟨h1, _, _, rfl, h3⟩
/-- the cells that came, by their pushes -/
structure ByIs (F : Cell → Push) (done : List Cell) (ord : List Push) (m : List (Push × PC)) : Prop where
  keys : m.map Prod.fst = ord
  own : ∀ x ∈ m, x.2.l ≠ [] ∧ ∀ c ∈ x.2.l, c ∈ done ∧ F c = x.1
  all : ∀ c ∈ done, ∃ x ∈ m, c ∈ x.2.l
  len : ∀ x ∈ m, x.2.l.length ≤ done.length
  ordlen : ord.length ≤ done.length
theorem ByIs.start (F : Cell → Push) : ByIs F [] [] [] := ⟨rfl, by simp, by simp, by simp, by simp⟩
theorem ByIs.step {F : Cell → Push} {done : List Cell} {ord : List Push} {m : List (Push × PC)} (h : ByIs F done ord m) (c : Cell) (v : Value) :
    ByIs F (done ++ [c]) (if mget m (F c) = none then ord ++ [F c] else ord) (mset m (F c) ⟨v, ((mget m (F c)).getD zPC).l ++ [c]⟩) := by
  have hp := mset_perm (F c) (⟨v, ((mget m (F c)).getD zPC).l ++ [c]⟩ : PC) m
  have hmem : ∀ x, x ∈ mset m (F c) ⟨v, ((mget m (F c)).getD zPC).l ++ [c]⟩ ↔ x = (F c, ⟨v, ((mget m (F c)).getD zPC).l ++ [c]⟩) ∨ x ∈ mdel m (F c) := fun x => by rw [hp.mem_iff, List.mem_cons]
  have hsub : ∀ x, x ∈ mdel m (F c) → x ∈ m := fun x hx => (mdel_sub (F c)).subset hx
  have hold : ∀ d ∈ ((mget m (F c)).getD zPC).l, d ∈ done ∧ F d = F c := by
    intro d hd
    cases hg : mget m (F c) with
    | none => rw [hg] at hd; cases hd
    | some y => rw [hg] at hd; exact (h.own _ (mget_mem hg)).2 d hd
  have holen : ((mget m (F c)).getD zPC).l.length ≤ done.length := by
    cases hg : mget m (F c) with
    | none => exact Nat.zero_le _
    | some y => exact h.len _ (mget_mem hg)
  refine ⟨?_, fun x hx => ?_, fun d hd => ?_, fun x hx => ?_, ?_⟩
  · cases hg : mget m (F c) with
    | none =>
      rw [if_pos rfl, mset_new _ _ (mget_none.1 hg), List.map_append, h.keys]
      rfl
    | some y =>
      rw [if_neg (by simp)]
      have hk : ∀ (m : List (Push × PC)) (u : PC), (F c) ∈ m.map Prod.fst → (mset m (F c) u).map Prod.fst = m.map Prod.fst := by
        intro m u
        induction m with
        | nil => intro h; cases h
        | cons q m ih =>
          intro hq
          simp only [mset]
          split
          · rename_i e; simp [e]
          · rename_i e
            simp only [List.map_cons, List.mem_cons] at hq ⊢
            rw [ih (hq.resolve_left fun e' => e e'.symm)]
      rw [hk m _ (List.mem_map.2 ⟨_, mget_mem hg, rfl⟩), h.keys]
  · rcases (hmem x).1 hx with rfl | hx
    · refine ⟨by simp, fun d hd => ?_⟩
      simp only [List.mem_append, List.mem_singleton] at hd
      rcases hd with hd | rfl
      · exact ⟨List.mem_append_left _ (hold d hd).1, (hold d hd).2⟩
      · exact ⟨by simp, rfl⟩
    · exact ⟨(h.own x (hsub x hx)).1, fun d hd => ⟨List.mem_append_left _ ((h.own x (hsub x hx)).2 d hd).1, ((h.own x (hsub x hx)).2 d hd).2⟩⟩
  · rcases List.mem_append.1 hd with hd | hd
    · obtain ⟨x, hx, hdx⟩ := h.all d hd
      by_cases he : x ∈ mdel m (F c)
      · exact ⟨x, (hmem x).2 (.inr he), hdx⟩
      · refine ⟨_, (hmem _).2 (.inl rfl), ?_⟩
        simp only
        cases hg : mget m (F c) with
        | none => rw [mdel_new _ (mget_none.1 hg)] at he; exact absurd hx he
        | some y =>
          have := (mget_perm hg).mem_iff.1 hx
          rcases List.mem_cons.1 this with rfl | h2
          · exact List.mem_append_left _ hdx
          · exact absurd h2 he
    · simp only [List.mem_singleton] at hd
      subst hd
      exact ⟨_, (hmem _).2 (.inl rfl), by simp⟩
  · rcases (hmem x).1 hx with rfl | hx
    · simp only [List.length_append, List.length_singleton]; omega
    · have := h.len x (hsub x hx); simp only [List.length_append, List.length_singleton]; omega
  · have := h.ordlen
    split <;> simp only [List.length_append, List.length_singleton] <;> omega
/-- a group -/
structure Grp where
  p : Push
  v : Value
  r : List Run
def Grp.cs (x : Grp) : List Value := x.p.cs ++ [x.v]
def Grp.pr (x : Grp) : Push × List Run := (x.p, x.r)
def rowG (x : Grp) : HP := runRow x.v x.r
def regOf (g : Grid) (l : List Cell) : List Run := regR (addAll g tab0 (l.map c2r))
theorem regOf_ok {g : Grid} (hg : g.ok = true) (hs : g.W * g.H ≤ 4096) (l : List Cell) : regRes (addAll g tab0 (l.map c2r)) = (regOf g l, 0) ∧ rightB g.W g.H (regOf g l) = true := by
  obtain ⟨hW, hH, _, _⟩ := Grid.ok_b hg
  obtain ⟨h1, _, h3⟩ := regRes_fits (addAll_good (g := g) (l.map c2r) (tab0_good g.W)) (addAll_low _ (tab0_low g.H)) hW.1 hH.1 hs
  exact ⟨h1, h3⟩
theorem ByIs.groups {g : Grid} (hg : g.ok = true) (hs : g.W * g.H ≤ 4096) {F : Cell → Push} {r : List Run} (hr : rightB g.W g.H r = true) {ord : List Push} {m : List (Push × PC)} (h : ByIs F (cellsAll r) ord m) {gl : List (Push × List Run)} (hgl : gl = m.map fun x => (x.1, regOf g x.2.l)) : GroupsOk g F r gl := by
  have hin : ∀ x ∈ m, ∀ c ∈ x.2.l, inG g c := fun x hx c hc => canon_inG (canon_of_right hr) (mem_cellsAll.1 ((h.own x hx).2 c hc).1)
  have hh : ∀ x ∈ m, ∀ c, hasB (regOf g x.2.l) c = true ↔ c ∈ x.2.l := fun x hx c => regC_has hg (hin x hx) c
  subst hgl
  refine ⟨fun y hy => ?_, fun y hy => ?_, fun y hy c hc => ?_, fun c hc => ?_⟩
  · obtain ⟨x, hx, rfl⟩ := List.mem_map.1 hy
    exact (regOf_ok hg hs _).2
  · obtain ⟨x, hx, rfl⟩ := List.mem_map.1 hy
    obtain ⟨c, hc⟩ := List.exists_mem_of_ne_nil _ (h.own x hx).1
    exact ⟨c, (hh x hx c).2 hc⟩
  · obtain ⟨x, hx, rfl⟩ := List.mem_map.1 hy
    have := (h.own x hx).2 c ((hh x hx c).1 hc)
    exact ⟨mem_cellsAll.1 this.1, this.2⟩
  · obtain ⟨x, hx, hcx⟩ := h.all c (mem_cellsAll.2 hc)
    exact ⟨_, List.mem_map.2 ⟨x, hx, rfl⟩, (hh x hx c).2 hcx⟩
theorem cells_small2 {g : Grid} (hg : g.ok = true) (hs : g.W * g.H ≤ 4096) {a : List Run} (ha : Canon g.W g.H a) : (cellsAll a).length ≤ 4096 := by
  obtain ⟨hW, hH, _, _⟩ := Grid.ok_b hg
  have h1 := countR_cells ha
  rw [countR_every hg ha] at h1
  have h2 := List.countP_le_length (p := hasB a) (l := everyR g.W.toNat g.H.toNat)
  rw [everyR_len] at h2
  have h3 : ((g.W.toNat * g.H.toNat : Nat) : Int) = g.W * g.H := by rw [Int.natCast_mul, Int.toNat_of_nonneg (by omega), Int.toNat_of_nonneg (by omega)]
  omega
theorem ap54 : tyApp Try.prog 54 = some (4, 32) := by kernel_rfl
theorem ap330 : tyApp Try.prog 330 = some (5, 56) := by kernel_rfl
set_option maxHeartbeats 1000000 in
theorem groups_c (g : Grid) (lv cv wv rv : Value) (cu wi : List Flow) (d : Drifter) (r : List Run) (side time sec : Int) (w : World) (hl : SlR w lv g.land) (hc : FlowsIs w cv cu) (hw : FlowsIs w wv wi) (hr : SlR w rv r) (hs : seaB g cu wi d sec = true) (hsm : g.W * g.H ≤ 4096) (hrr : rightB g.W g.H r = true) :
    Calls Try.prog 235 #[seaEv g lv cv wv d, rv, .int .i64 side, .int .i64 time, .int .i64 sec] w (fun e w' => (knownB cu wi d side time sec r = false ∧ e = .returned (.tuple #[.slice none 0 0, .int .i64 7]) ∧ Own w w' []) ∨
      (knownB cu wi d side time sec r = true ∧ ∃ ov items, e = .returned (.tuple #[ov, .int .i64 0]) ∧ GroupsOk g (pF cu wi d side time sec) r (items.map Grp.pr) ∧ items.length ≤ 65536 ∧ Own w w' [trow 330 5 Grp.cs ov items, bag (items.map rowG)])) := by
  obtain ⟨la, lc, rfl⟩ := hl.len
  obtain ⟨ra, rc, rfl⟩ := hr.len
  obtain ⟨ca, cc, rfl⟩ := hc.1.len
  obtain ⟨wa, wc, rfl⟩ := hw.1.len
  have hgok : g.ok = true := by unfold seaB flowsB at hs; simp only [Bool.and_eq_true] at hs; exact hs.1.1.1.1
  have hcan := canon_of_right hrr
  have hcs := cells_small2 hgok hsm hcan
  have hcR := cells_right hgok hrr
  refine calls_J (args := [seaEv g (.slice la g.land.length lc) (.slice ca cu.length cc) (.slice wa wi.length wc) d, .slice ra r.length rc, .int .i64 side, .int .i64 time, .int .i64 sec]) Try.func235 rfl Try.ntmps235 rfl ?_
  have H := Own.start w
  ((repeat refine JC.seq ?_); refine JC.region ?_)
  refine JL.box H rfl rfl rfl ?_
  intro b5 w1 H
  refine JL.alloc H z326 rfl ?_
  intro b10 w2 H
  refine JL.alloc H z28 rfl ?_
  intro b11 w3 H
  refine JL.nil ?_
  ((repeat refine Ex.normal_block ?_); refine Ex.next ?_)
  ((repeat refine JC.seq ?_); refine JC.region ?_)
  refine JL.fieldAddr rfl Try.underlying220 rfl sh52 rfl ?_
  refine JL.loadB 2 H rfl sh52 rfl rfl rfl ?_
  refine JL.pure rfl rfl ?_
  refine JL.call fb49 rfl rfl (cells49_c g _ (.slice ra r.length rc) r _ (hl.grow H.below) (hr.grow H.below)) ?_
  rw [hcR]
  obtain ⟨C, hC⟩ : ∃ C, C = cellsAll r := ⟨_, rfl⟩
  rw [← hC] at hcs ⊢
  rintro _ w4 ⟨cv, rfl, K⟩
  obtain ⟨ka, kc, rfl⟩ := K.row_slice (j := 0) rfl
  have H := H.join K
  refine ⟨_, rfl, ?_⟩
  refine JL.pure rfl rfl ?_
  refine JL.pure rfl rfl ?_
  refine JL.pure rfl rfl ?_
  refine JL.pure rfl rfl ?_
  refine JL.pure rfl rfl ?_
  refine JL.nil ?_
  ((repeat refine Ex.normal_block ?_); refine Ex.next ?_)
  ((repeat refine JC.seq ?_); refine JC.region ?_)
  refine JL.pure rfl rfl ?_
  refine JL.pure rfl rfl ?_
  refine JL.re 34 rfl (v' := .bool false) rfl ?_
  refine JL.nil ?_
  ((repeat refine Ex.normal_block ?_); refine Ex.next ?_)
  ((repeat refine JC.seq ?_); refine JC.cond rfl (fun h => by cases h) (fun _ => ?_))
  ((repeat refine JC.seq ?_); refine JC.skip ?_)
  ((repeat refine Ex.normal_block ?_); refine Ex.next ?_)
  ((repeat refine JC.seq ?_); refine JC.region ?_)
  refine JL.makeMap Push.ev PC.v H rfl ?_
  intro β w1 H
  refine JL.pure rfl rfl ?_
  refine JL.nil ?_
  ((repeat refine Ex.normal_block ?_); refine Ex.next ?_)
  ((repeat refine JC.seq ?_); refine JC.region ?_)
  refine JL.pure rfl rfl ?_
  refine JL.nil ?_
  ((repeat refine Ex.normal_block ?_); refine Ex.next ?_)
  ((repeat refine JC.seq ?_); refine JC.region ?_)
  refine JL.pure rfl rfl ?_
  refine JL.len rfl Try.underlying68 rfl ?_
  refine JL.pure rfl rfl ?_
  refine JL.nil ?_
  ((repeat refine Ex.normal_block ?_); refine Ex.next ?_)
  ((repeat refine JC.seq ?_); refine JC.block ?_)
  ((repeat refine JC.seq ?_); refine JC.loop (ι := Nat × Value × List Push × List (Push × PC)) (fun x => [(2, .int .i64 side), (3, .int .i64 time), (4, .int .i64 sec), (5, .pointer (some ⟨b5, 0, none⟩)), (10, .pointer (some ⟨b10, 0, none⟩)), (11, .pointer (some ⟨b11, 0, none⟩)), (14, .map (some β)), (15, x.2.1), (37, .slice ka C.length kc), (38, .int .i64 C.length), (39, .int .i64 x.1)])
    (fun x wr => x.1 ≤ C.length ∧ (ByIs (pF cu wi d side time sec) (C.take x.1) x.2.2.1 x.2.2.2 ∧ ∀ c ∈ C.take x.1, (pushR cu wi d c side time sec).2 = true) ∧ Own w wr [trow 54 4 Push.cs x.2.1 x.2.2.1, bag (x.2.2.2.map rowP), tmap Push.ev PC.v β x.2.2.2, cellRow (.slice ka C.length kc) C, blk b11 (.cells ⟨[.int .i64 0]⟩ 28 (0, 0)), blk b10 (.cells ⟨[.slice none 0 0]⟩ 326 (0, 0)), blk b5 (.cells ⟨[.int .i64 g.W, .int .i64 g.H, .int .i64 g.S, .slice la g.land.length lc, .slice ca cu.length cc, .slice wa wi.length wc, .int .i64 d.dl, .int .i64 d.dh, .int .i64 d.cl, .int .i64 d.ch, .bool d.jibes]⟩ 220 (0, 0))]) (fun x => C.length - x.1) (0, .slice none 0 0, [], []) ?_ ?_ ?_)
  · exact ⟨rfl, rfl, rfl, rfl, rfl, rfl, rfl, rfl, rfl, rfl, rfl, trivial⟩
  · exact ⟨Nat.zero_le _, ⟨ByIs.start _, by simp⟩, ((show Own _ _ ([] ++ _) from H).pack).nilRow 54 4⟩
  · rintro ⟨k, ov, ord, m⟩ wr ⟨hk, ⟨hB, hkn⟩, H⟩
    simp only at hk hB hkn H
    show JC _ _ _ _ [(2, .int .i64 side), (3, .int .i64 time), (4, .int .i64 sec), (5, .pointer (some ⟨b5, 0, none⟩)), (10, .pointer (some ⟨b10, 0, none⟩)), (11, .pointer (some ⟨b11, 0, none⟩)), (14, .map (some β)), (15, ov), (37, .slice ka C.length kc), (38, .int .i64 C.length), (39, .int .i64 k)] _
    ((repeat refine JC.seq ?_); refine JC.region ?_)
    refine JL.pure rfl rfl ?_
    refine JL.nil ?_
    ((repeat refine Ex.normal_block ?_); refine Ex.next ?_)
    ((repeat refine JC.seq ?_); refine JC.cond rfl ?_ ?_)
    · intro h40
      (try simp only [Bool.not_eq_true', Bool.not_eq_false', decide_eq_true_eq, decide_eq_false_iff_not] at h40)
      have h40 : k < C.length := by omega
      have hx : C[k]? = some C[k] := by simp [h40]
      obtain ⟨g2, c2, hg2, _, _, _⟩ := H.rowAt (j := 3) (e := 62) (sz := 2) (enc := Cell.cs) (fun _ => rfl) rfl hx
      simp only [Value.slice.injEq] at hg2
      obtain ⟨rfl, _, rfl⟩ := hg2
      ((repeat refine JC.seq ?_); refine JC.skip ?_)
      ((repeat refine Ex.normal_block ?_); refine Ex.next ?_)
      ((repeat refine JC.seq ?_); refine JC.block ?_)
      ((repeat refine JC.seq ?_); refine JC.region ?_)
      refine JL.indexS k rfl rfl Try.underlying68 sh62 rfl h40 rfl ?_
      refine JL.load rfl sh62 (H.rowLd (j := 3) (e := 62) (sz := 2) (enc := Cell.cs) (fun _ => rfl) rfl hx) rfl ?_
      refine JL.alloc H z62 rfl ?_
      intro b17 w5 H
      refine JL.storeB 0 H rfl rfl sh62 rfl rfl rfl rfl rfl ?_
      intro w6 H
      refine JL.nil ?_
      ((repeat refine Ex.normal_block ?_); refine Ex.next ?_)
      ((repeat refine JC.seq ?_); refine JC.region ?_)
      refine JL.loadB 7 H rfl sh220 rfl rfl rfl ?_
      refine JL.loadB 0 H rfl sh62 rfl rfl rfl ?_
      refine JL.pure rfl rfl ?_
      refine JL.pure rfl rfl ?_
      refine JL.pure rfl rfl ?_
      refine JL.callP H fb205 rfl rfl (push205_c g _ _ _ cu wi d C[k] side time sec _ (hl.grow H.below) (hc.grow H.below) (hw.grow H.below) hs) ?_
      intro w7 H _
      obtain ⟨P9, hP9⟩ : ∃ P9, P9 = pushR cu wi d C[k] side time sec := ⟨_, rfl⟩
      rw [← hP9]
      have hF9 : pF cu wi d side time sec C[k] = P9.1 := by unfold pF; rw [hP9]
      refine JL.pure rfl rfl ?_
      refine JL.pure rfl rfl ?_
      refine JL.pure rfl rfl ?_
      refine JL.alloc H z54 rfl ?_
      intro b18 w8 H
      refine JL.storeB 0 H rfl rfl sh54 rfl rfl rfl rfl rfl ?_
      intro w9 H
      refine JL.pure rfl rfl ?_
      refine JL.nil ?_
      ((repeat refine Ex.normal_block ?_); refine Ex.next ?_)
      ((repeat refine JC.seq ?_); refine JC.region ?_)
      refine JL.pure rfl rfl ?_
      refine JL.pure rfl rfl ?_
      refine JL.nil ?_
      ((repeat refine Ex.normal_block ?_); refine Ex.next ?_)
      ((repeat refine JC.seq ?_); refine JC.cond rfl ?_ ?_)
      · intro h53
        (try simp only [Bool.not_eq_true', Bool.not_eq_false', decide_eq_true_eq, decide_eq_false_iff_not] at h53)
        have h53 : P9.2 = false := by simpa using h53
        ((repeat refine JC.seq ?_); refine JC.region ?_)
        refine JL.storeB 7 H rfl rfl sh326 rfl rfl rfl rfl rfl ?_
        intro w10 H
        refine JL.storeB 6 H rfl rfl sh28 rfl rfl rfl rfl rfl ?_
        intro w11 H
        refine JL.nil ?_
        ((repeat refine Ex.normal_block ?_); refine Ex.next ?_)
        ((repeat refine JC.seq ?_); refine JC.ret ?_)
        (repeat (first | refine Ex.ret_then ?_ | refine Ex.ret_block ?_))
        refine Ex.ret2 rfl (.cell rfl sh326 (LdAt.of_block (H.get (i := 7) rfl).2 rfl)) (.cell rfl sh28 (LdAt.of_block (H.get (i := 6) rfl).2 rfl)) (.inl ⟨?_, rfl, (((((((((H.drop 0).drop 0).drop 0).drop 0).drop 0).drop 0).drop 0).drop 0).drop 0)⟩)
        refine Bool.eq_false_iff.2 fun hh => ?_
        have := List.all_eq_true.1 hh C[k] (by rw [← hC]; exact List.getElem_mem h40)
        rw [← hP9, h53] at this
        cases this
      · intro h53
        (try simp only [Bool.not_eq_true', Bool.not_eq_false', decide_eq_true_eq, decide_eq_false_iff_not] at h53)
        have h53 : P9.2 = true := by simpa using h53
        ((repeat refine JC.seq ?_); refine JC.skip ?_)
        ((repeat refine Ex.normal_block ?_); refine Ex.next ?_)
        ((repeat refine JC.seq ?_); refine JC.region ?_)
        refine JL.pure rfl rfl ?_
        refine JL.loadB 0 H rfl sh54 rfl rfl rfl ?_
        obtain ⟨xa, xn, xc, hxv, hxn⟩ : ∃ a n c, ((mget m P9.1).getD zPC).v = .slice a n c ∧ a.isNone = decide (mget m P9.1 = none) := by
          cases hg : mget m P9.1 with
          | none => exact ⟨_, _, _, rfl, rfl⟩
          | some y =>
            have hH := (H.front 3 rfl).takeR P9.1
            rw [hg] at hH
            obtain ⟨u1, u2, e1, _⟩ := hH.row_cap (j := 0) rfl (List.length_pos_iff.2 (hB.own _ (mget_mem hg)).1)
            exact ⟨_, _, _, e1, rfl⟩
        refine JL.lookupM 4 H P9.1 zPC rfl rfl rfl Try.underlying371 keyPush zero68 rfl ?_
        refine JL.re 56 rfl (v' := .slice xa xn xc) hxv ?_
        refine JL.eqs rfl rfl (eqNilS Try.underlying68 xa xn xc) rfl ?_
        refine JL.re 57 rfl (v' := .bool (decide (mget m P9.1 = none))) (congrArg Value.bool hxn) ?_
        refine JL.nil ?_
        ((repeat refine Ex.normal_block ?_); refine Ex.next ?_)
        ((repeat refine JC.seq ?_); refine JC.cond rfl ?_ ?_)
        · intro h57
          (try simp only [Bool.not_eq_true', Bool.not_eq_false', decide_eq_true_eq, decide_eq_false_iff_not] at h57)
          have hp57 : mget m P9.1 = none := h57
          ((repeat refine JC.seq ?_); refine JC.region ?_)
          refine JL.pure rfl rfl ?_
          refine JL.loadB 0 H rfl sh54 rfl rfl rfl ?_
          refine JL.buildSlice H Try.underlying372 sh54 z54 rfl rfl rfl rfl rfl ?_
          intro b60 w12 H
          have hol := hB.ordlen
          rw [List.length_take] at hol
          refine JL.append1 (news := Push.cs P9.1) 3 0 H Try.underlying372 ap54 rfl rfl rfl rfl rfl rfl (by omega) (by omega) rfl ?_
          intro ov2 w13 H
          have H := H.upd (j := 3) (B := trow 54 4 Push.cs ov2 (ord ++ [P9.1])) rfl (fun h hh => by rw [← trow_snoc]; exact hh)
          refine JL.pure rfl rfl ?_
          refine JL.nil ?_
          ((repeat refine Ex.normal_block ?_); refine Ex.next ?_)
          ((repeat refine JC.seq ?_); refine JC.region ?_)
          refine JL.pure rfl rfl ?_
          refine JL.loadB 1 H rfl sh54 rfl rfl rfl ?_
          refine JL.loadB 2 H rfl sh62 rfl rfl rfl ?_
          refine JL.buildSlice H Try.underlying68 sh62 z62 rfl rfl rfl rfl rfl ?_
          intro b66 w14 H
          have H := (H.front 5 rfl).takeR P9.1
          obtain ⟨X9, hX9⟩ : ∃ X, X = (mget m P9.1).getD zPC := ⟨_, rfl⟩
          have hXl : X9.l.length ≤ 65536 := by
            rw [hX9]
            cases hg : mget m P9.1 with
            | none => exact Nat.zero_le _
            | some y =>
              have := hB.len _ (mget_mem hg)
              simp only [List.length_take] at this
              simp only [Option.getD_some]
              omega
          rw [← hX9] at H
          refine JL.mapEntry 7 H P9.1 zPC rfl rfl Try.underlying371 keyPush zero68 rfl rfl ?_
          rw [← hX9]
          intro es9 clk9 st9 w9 hM9 hE9 H
          refine JL.pure rfl rfl ?_
          refine JL.append1 (news := Cell.cs C[k]) 0 2 H Try.underlying68 ap62 rfl rfl rfl rfl rfl rfl (by omega) (by omega) rfl ?_
          intro v2 w15 H
          replace H := H.cast (L := cellRow v2 (X9.l ++ [C[k]]) :: _) (by unfold cellRow; rw [← trow_snoc]; rfl)
          refine JL.pure rfl rfl ?_
          refine JL.entryStore 7 H P9.1 ⟨v2, X9.l ++ [C[k]]⟩ rfl rfl rfl keyPush hM9 hE9 rfl ?_
          intro w9 H
          rw [mset_mset] at H
          refine JL.nil ?_
          ((repeat refine Ex.normal_block ?_); refine Ex.next ?_)
          ((repeat refine JC.seq ?_); refine JC.region ?_)
          refine JL.arith rfl (by unfold In64; omega) rfl ?_
          refine JL.pure rfl rfl ?_
          refine JL.nil ?_
          (repeat refine Ex.normal_block ?_)
          have H := H.putR (p := P9.1) (m := m)
          have H := ((((H.drop 1).drop 1).drop 1).drop 1)
          have hB9 := hB.step C[k] v2
          rw [show pF cu wi d side time sec C[k] = P9.1 from hF9, if_pos hp57, ← List.take_succ_eq_append_getElem h40, ← hX9] at hB9
          refine Ex.again (k + 1, ov2, ord ++ [P9.1], _) ⟨rfl, rfl, rfl, rfl, rfl, rfl, rfl, rfl, rfl, rfl, rfl, trivial⟩ ⟨h40, ⟨hB9, fun c hcm => ?_⟩, H.perm (List.Perm.swap _ _ _)⟩ (by simp only; omega)
          simp only at hcm
          rw [List.take_succ_eq_append_getElem h40] at hcm
          rcases List.mem_append.1 hcm with hcm | hcm
          · exact hkn c hcm
          · rw [List.mem_singleton.1 hcm, ← hP9]; exact h53
        · intro h57
          (try simp only [Bool.not_eq_true', Bool.not_eq_false', decide_eq_true_eq, decide_eq_false_iff_not] at h57)
          have hp57 : ¬ mget m P9.1 = none := h57
          ((repeat refine JC.seq ?_); refine JC.skip ?_)
          ((repeat refine Ex.normal_block ?_); refine Ex.next ?_)
          ((repeat refine JC.seq ?_); refine JC.region ?_)
          refine JL.pure rfl rfl ?_
          refine JL.loadB 0 H rfl sh54 rfl rfl rfl ?_
          refine JL.loadB 1 H rfl sh62 rfl rfl rfl ?_
          refine JL.buildSlice H Try.underlying68 sh62 z62 rfl rfl rfl rfl rfl ?_
          intro b66_15 w16 H
          have H := (H.front 4 rfl).takeR P9.1
          obtain ⟨X9, hX9⟩ : ∃ X, X = (mget m P9.1).getD zPC := ⟨_, rfl⟩
          have hXl : X9.l.length ≤ 65536 := by
            rw [hX9]
            cases hg : mget m P9.1 with
            | none => exact Nat.zero_le _
            | some y =>
              have := hB.len _ (mget_mem hg)
              simp only [List.length_take] at this
              simp only [Option.getD_some]
              omega
          rw [← hX9] at H
          refine JL.mapEntry 6 H P9.1 zPC rfl rfl Try.underlying371 keyPush zero68 rfl rfl ?_
          rw [← hX9]
          intro es9 clk9 st9 w9 hM9 hE9 H
          refine JL.pure rfl rfl ?_
          refine JL.append1 (news := Cell.cs C[k]) 0 2 H Try.underlying68 ap62 rfl rfl rfl rfl rfl rfl (by omega) (by omega) rfl ?_
          intro v2 w17 H
          replace H := H.cast (L := cellRow v2 (X9.l ++ [C[k]]) :: _) (by unfold cellRow; rw [← trow_snoc]; rfl)
          refine JL.pure rfl rfl ?_
          refine JL.entryStore 6 H P9.1 ⟨v2, X9.l ++ [C[k]]⟩ rfl rfl rfl keyPush hM9 hE9 rfl ?_
          intro w9 H
          rw [mset_mset] at H
          refine JL.nil ?_
          ((repeat refine Ex.normal_block ?_); refine Ex.next ?_)
          ((repeat refine JC.seq ?_); refine JC.region ?_)
          refine JL.arith rfl (by unfold In64; omega) rfl ?_
          refine JL.pure rfl rfl ?_
          refine JL.nil ?_
          (repeat refine Ex.normal_block ?_)
          have H := H.putR (p := P9.1) (m := m)
          have H := (((H.drop 1).drop 1).drop 1)
          have hB9 := hB.step C[k] v2
          rw [show pF cu wi d side time sec C[k] = P9.1 from hF9, if_neg hp57, ← List.take_succ_eq_append_getElem h40, ← hX9] at hB9
          refine Ex.again (k + 1, ov, ord, _) ⟨rfl, rfl, rfl, rfl, rfl, rfl, rfl, rfl, rfl, rfl, rfl, trivial⟩ ⟨h40, ⟨hB9, fun c hcm => ?_⟩, H.perm (List.Perm.swap _ _ _)⟩ (by simp only; omega)
          simp only at hcm
          rw [List.take_succ_eq_append_getElem h40] at hcm
          rcases List.mem_append.1 hcm with hcm | hcm
          · exact hkn c hcm
          · rw [List.mem_singleton.1 hcm, ← hP9]; exact h53
    · intro h40
      (try simp only [Bool.not_eq_true', Bool.not_eq_false', decide_eq_true_eq, decide_eq_false_iff_not] at h40)
      have hkk : k = C.length := by omega
      subst hkk
      rw [List.take_length] at hB hkn
      have hknB : knownB cu wi d side time sec r = true := List.all_eq_true.2 (by rw [← hC]; exact hkn)
      ((repeat refine JC.seq ?_); refine JC.exit ?_)
      (repeat (first | refine Ex.exit_then ?_ | refine Ex.exit_miss (by decide) ?_))
      refine Ex.exit_hit ?_
      ((repeat refine Ex.normal_block ?_); refine Ex.next ?_)
      ((repeat refine JC.seq ?_); refine JC.region ?_)
      refine JL.alloc H z326 rfl ?_
      intro b20 w18 H
      refine JL.nil ?_
      ((repeat refine Ex.normal_block ?_); refine Ex.next ?_)
      ((repeat refine JC.seq ?_); refine JC.region ?_)
      obtain ⟨oa, oc, rfl⟩ := H.row_slice (j := 1) rfl
      refine JL.pure rfl rfl ?_
      refine JL.len rfl Try.underlying372 rfl ?_
      refine JL.pure rfl rfl ?_
      refine JL.nil ?_
      ((repeat refine Ex.normal_block ?_); refine Ex.next ?_)
      ((repeat refine JC.seq ?_); refine JC.block ?_)
      ((repeat refine JC.seq ?_); refine JC.loopM (ι := Nat × List Nat × Value × List Grp) (fun x => ⟨100, x.2.1, none⟩) (fun x => [(5, .pointer (some ⟨b5, 0, none⟩)), (10, .pointer (some ⟨b10, 0, none⟩)), (11, .pointer (some ⟨b11, 0, none⟩)), (14, .map (some β)), (20, .pointer (some ⟨b20, 0, none⟩)), (71, .slice oa ord.length oc), (72, .int .i64 ord.length), (73, .int .i64 x.1)])
        (fun x wr => x.1 ≤ ord.length ∧ x.2.2.2.map Grp.pr = (m.take x.1).map (fun y => (y.1, regOf g y.2.l)) ∧ Own w wr [trow 330 5 Grp.cs x.2.2.1 x.2.2.2, bag (x.2.2.2.map rowG), bag (x.2.1.map dfr), blk b20 (.cells ⟨[x.2.2.1]⟩ 326 (0, 0)), trow 54 4 Push.cs (.slice oa ord.length oc) ord, bag (m.map rowP), tmap Push.ev PC.v β m, cellRow (.slice ka C.length kc) C, blk b11 (.cells ⟨[.int .i64 0]⟩ 28 (0, 0)), blk b10 (.cells ⟨[.slice none 0 0]⟩ 326 (0, 0)), blk b5 (.cells ⟨[.int .i64 g.W, .int .i64 g.H, .int .i64 g.S, .slice la g.land.length lc, .slice ca cu.length cc, .slice wa wi.length wc, .int .i64 d.dl, .int .i64 d.dh, .int .i64 d.cl, .int .i64 d.ch, .bool d.jibes]⟩ 220 (0, 0))]) (fun x => ord.length - x.1) (0, [], .slice none 0 0, []) rfl (fun _ => rfl) ?_ ?_ ?_)
      · exact ⟨rfl, rfl, rfl, rfl, rfl, rfl, rfl, rfl, trivial⟩
      · exact ⟨Nat.zero_le _, rfl, (((show Own _ _ ([] ++ _) from (show Own _ _ ([] ++ _) from H).pack).pack).nilRow 330 5)⟩
      · rintro ⟨j, ds, ov, items⟩ wr ⟨hj, hit, H⟩
        simp only at hj hit H
        obtain ⟨va, vc, rfl⟩ := H.row_slice (j := 0) rfl
        show JC _ _ _ _ [(5, .pointer (some ⟨b5, 0, none⟩)), (10, .pointer (some ⟨b10, 0, none⟩)), (11, .pointer (some ⟨b11, 0, none⟩)), (14, .map (some β)), (20, .pointer (some ⟨b20, 0, none⟩)), (71, .slice oa ord.length oc), (72, .int .i64 ord.length), (73, .int .i64 j)] _
        ((repeat refine JC.seq ?_); refine JC.region ?_)
        refine JL.pure rfl rfl ?_
        refine JL.nil ?_
        ((repeat refine Ex.normal_block ?_); refine Ex.next ?_)
        ((repeat refine JC.seq ?_); refine JC.cond rfl ?_ ?_)
        · intro h74
          (try simp only [Bool.not_eq_true', Bool.not_eq_false', decide_eq_true_eq, decide_eq_false_iff_not] at h74)
          have h74 : j < ord.length := by omega
          have hml : m.length = ord.length := by rw [← hB.keys, List.length_map]
          obtain ⟨⟨p, x⟩, hmj⟩ : ∃ px, m[j]'(by omega) = px := ⟨_, rfl⟩
          have hmj2 : m[j]? = some (p, x) := by rw [List.getElem?_eq_getElem (by omega), hmj]
          have hxm : (p, x) ∈ m := List.mem_of_getElem? hmj2
          have hop : ord[j]? = some p := by rw [← hB.keys, List.getElem?_map, hmj2]; rfl
          have hx0 := List.length_pos_iff.2 (hB.own _ hxm).1
          have hx1 := hB.len _ hxm
          have hol := hB.ordlen
          simp only at hx0 hx1
          obtain ⟨g2, c2, hg2, _, _, _⟩ := H.rowAt (j := 4) (e := 54) (sz := 4) (enc := Push.cs) (fun _ => rfl) rfl hop
          simp only [Value.slice.injEq] at hg2
          obtain ⟨rfl, _, rfl⟩ := hg2
          have hfit := regOf_ok hgok hsm x.l
          have hxin : ∀ c ∈ x.l, inG g c := fun c hcx => canon_inG hcan (mem_cellsAll.1 (by rw [← hC]; exact ((hB.own _ hxm).2 c hcx).1))
          ((repeat refine JC.seq ?_); refine JC.skip ?_)
          ((repeat refine Ex.normal_block ?_); refine Ex.next ?_)
          ((repeat refine JC.seq ?_); refine JC.block ?_)
          ((repeat refine JC.seq ?_); refine JC.region ?_)
          refine JL.indexS j rfl rfl Try.underlying372 sh54 rfl h74 rfl ?_
          refine JL.load rfl sh54 (H.rowLd (j := 4) (e := 54) (sz := 4) (enc := Push.cs) (fun _ => rfl) rfl hop) rfl ?_
          refine JL.alloc H z54 rfl ?_
          intro b22 w19 H
          refine JL.storeB 0 H rfl rfl sh54 rfl rfl rfl rfl rfl ?_
          intro w20 H
          refine JL.nil ?_
          ((repeat refine Ex.normal_block ?_); refine Ex.next ?_)
          ((repeat refine JC.seq ?_); refine JC.region ?_)
          refine JL.pure rfl rfl ?_
          refine JL.loadB 0 H rfl sh54 rfl rfl rfl ?_
          have hnd : (m.map Prod.fst).Nodup := H.pick (j := 7) rfl (fun h ⟨es, clock, hM, _⟩ => hM.nodup)
          have hmg : mget m p = some x := mget_of_mem hnd hxm
          obtain ⟨xa, xc, hxv, hxc⟩ := (H.unpackAt (i := 6) rfl).row_cap (j := j) (by rw [List.getElem?_append_left (by rw [List.length_map]; omega), List.getElem?_map, hmj2]; rfl) hx0
          simp only at hxv
          refine JL.lookupM 7 H p zPC rfl rfl rfl Try.underlying371 keyPush zero68 rfl ?_
          refine JL.re 79 rfl (v' := .slice (some xa) x.l.length xc) (by rw [hmg]; exact hxv) ?_
          refine JL.call fb281 rfl rfl (chunk_c _ _ _ _) ?_
          rintro _ w21 ⟨c2, c3, rfl, K⟩
          have H := H.join K
          refine ⟨_, rfl, ?_⟩
          refine JL.nil ?_
          ((repeat refine Ex.normal_block ?_); refine Ex.next ?_)
          ((repeat refine JC.seq ?_); refine JC.block ?_)
          ((repeat refine JC.seq ?_); refine JC.rangeFunc (ι := Unit) (A := []) rfl hb297 (chunk_iter w c2 c3 (some xa) x.l.length xc ⟨hx0, by omega⟩ hxc) (fun _ => rfl) rfl
            (fun pre L => ∃ ov' items', ((pre = [] ∧ ov' = Value.slice va items.length vc ∧ items' = items) ∨ (pre = [()] ∧ items'.map Grp.pr = items.map Grp.pr ++ [(p, regOf g x.l)])) ∧ L = [blk c3 (.cells ⟨[.int .i64 8192]⟩ 3 (0, 0)), blk c2 (.cells ⟨[.slice (some xa) x.l.length xc]⟩ 68 (0, 0)), blk b22 (.cells ⟨[.int .i64 p.Low.X, .int .i64 p.Low.Y, .int .i64 p.High.X, .int .i64 p.High.Y]⟩ 54 (0, 0)), trow 330 5 Grp.cs ov' items', bag (items'.map rowG), bag (ds.map dfr), blk b20 (.cells ⟨[ov']⟩ 326 (0, 0)), trow 54 4 Push.cs (.slice (some ⟨g2, 0, none⟩) ord.length oc) ord, bag (m.map rowP), tmap Push.ev PC.v β m, cellRow (.slice ka C.length kc) C, blk b11 (.cells ⟨[.int .i64 0]⟩ 28 (0, 0)), blk b10 (.cells ⟨[.slice none 0 0]⟩ 326 (0, 0)), blk b5 (.cells ⟨[.int .i64 g.W, .int .i64 g.H, .int .i64 g.S, .slice la g.land.length lc, .slice ca cu.length cc, .slice wa wi.length wc, .int .i64 d.dl, .int .i64 d.dh, .int .i64 d.cl, .int .i64 d.ch, .bool d.jibes]⟩ 220 (0, 0))]) (fun _ _ _ => False) (L0 := [blk c3 (.cells ⟨[.int .i64 8192]⟩ 3 (0, 0)), blk c2 (.cells ⟨[.slice (some xa) x.l.length xc]⟩ 68 (0, 0)), blk b22 (.cells ⟨[.int .i64 p.Low.X, .int .i64 p.Low.Y, .int .i64 p.High.X, .int .i64 p.High.Y]⟩ 54 (0, 0)), trow 330 5 Grp.cs (Value.slice va items.length vc) items, bag (items.map rowG), bag (ds.map dfr), blk b20 (.cells ⟨[(Value.slice va items.length vc)]⟩ 326 (0, 0)), trow 54 4 Push.cs (.slice (some ⟨g2, 0, none⟩) ord.length oc) ord, bag (m.map rowP), tmap Push.ev PC.v β m, cellRow (.slice ka C.length kc) C, blk b11 (.cells ⟨[.int .i64 0]⟩ 28 (0, 0)), blk b10 (.cells ⟨[.slice none 0 0]⟩ 326 (0, 0)), blk b5 (.cells ⟨[.int .i64 g.W, .int .i64 g.H, .int .i64 g.S, .slice la g.land.length lc, .slice ca cu.length cc, .slice wa wi.length wc, .int .i64 d.dl, .int .i64 d.dh, .int .i64 d.cl, .int .i64 d.ch, .bool d.jibes]⟩ 220 (0, 0))]) H ⟨_, _, .inl ⟨rfl, rfl, rfl⟩, rfl⟩ ?_
            (fun (_ _ : Unit) => [(5, .pointer (some ⟨b5, 0, none⟩)), (10, .pointer (some ⟨b10, 0, none⟩)), (11, .pointer (some ⟨b11, 0, none⟩)), (20, .pointer (some ⟨b20, 0, none⟩)), (22, .pointer (some ⟨b22, 0, none⟩)), (23, .slice (some xa) x.l.length x.l.length)]) (fun (_ _ : Unit) => ([] : List HP)) ?_ ?_ ?_ ?_)
          · rintro pre L X w' ⟨ov', items', _, rfl⟩ h
            exact ⟨LdAt.of_block (h.swap.get (i := 1) rfl).2 rfl, LdAt.of_block (h.swap.get (i := 0) rfl).2 rfl⟩
          · intro l pre u L X wr hpx hS H
            ((repeat refine JC.seq ?_); refine JC.region ?_)
            refine JL.pure rfl rfl ?_
            refine JL.nil ?_
            (repeat refine Ex.normal_block ?_)
            refine Ex.asg (E := (fun (_ _ : Unit) => ([] : List HP))) (F := (fun (_ _ : Unit) => [(5, .pointer (some ⟨b5, 0, none⟩)), (10, .pointer (some ⟨b10, 0, none⟩)), (11, .pointer (some ⟨b11, 0, none⟩)), (20, .pointer (some ⟨b20, 0, none⟩)), (22, .pointer (some ⟨b22, 0, none⟩)), (23, .slice (some xa) x.l.length x.l.length)])) (x := u) (M := X ++ L) () ?_ H
            exact ⟨rfl, rfl, rfl, rfl, rfl, rfl, trivial⟩
          · rintro l u0 pre u L X wr hpx ⟨ov', items', hpre, rfl⟩ H
            have hp0 : pre = [] := by
              have h1 := hpx.length_le
              simp only [List.length_append, List.length_cons, List.length_nil] at h1
              exact List.eq_nil_of_length_eq_zero (by omega)
            subst hp0
            obtain ⟨_, rfl, rfl⟩ := hpre.resolve_right (by rintro ⟨h, _⟩; cases h)
            replace H : Own w wr ([blk c3 (.cells ⟨[.int .i64 8192]⟩ 3 (0, 0)), blk c2 (.cells ⟨[.slice (some xa) x.l.length xc]⟩ 68 (0, 0)), blk b22 (.cells ⟨[.int .i64 p.Low.X, .int .i64 p.Low.Y, .int .i64 p.High.X, .int .i64 p.High.Y]⟩ 54 (0, 0)), trow 330 5 Grp.cs (Value.slice va items'.length vc) items', bag (items'.map rowG), bag (ds.map dfr), blk b20 (.cells ⟨[(Value.slice va items'.length vc)]⟩ 326 (0, 0)), trow 54 4 Push.cs (.slice (some ⟨g2, 0, none⟩) ord.length oc) ord, bag (m.map rowP), tmap Push.ev PC.v β m, cellRow (.slice ka C.length kc) C, blk b11 (.cells ⟨[.int .i64 0]⟩ 28 (0, 0)), blk b10 (.cells ⟨[.slice none 0 0]⟩ 326 (0, 0)), blk b5 (.cells ⟨[.int .i64 g.W, .int .i64 g.H, .int .i64 g.S, .slice la g.land.length lc, .slice ca cu.length cc, .slice wa wi.length wc, .int .i64 d.dl, .int .i64 d.dh, .int .i64 d.cl, .int .i64 d.ch, .bool d.jibes]⟩ 220 (0, 0))] ++ X) := (show Own w wr (X ++ [blk c3 (.cells ⟨[.int .i64 8192]⟩ 3 (0, 0)), blk c2 (.cells ⟨[.slice (some xa) x.l.length xc]⟩ 68 (0, 0)), blk b22 (.cells ⟨[.int .i64 p.Low.X, .int .i64 p.Low.Y, .int .i64 p.High.X, .int .i64 p.High.Y]⟩ 54 (0, 0)), trow 330 5 Grp.cs (Value.slice va items'.length vc) items', bag (items'.map rowG), bag (ds.map dfr), blk b20 (.cells ⟨[(Value.slice va items'.length vc)]⟩ 326 (0, 0)), trow 54 4 Push.cs (.slice (some ⟨g2, 0, none⟩) ord.length oc) ord, bag (m.map rowP), tmap Push.ev PC.v β m, cellRow (.slice ka C.length kc) C, blk b11 (.cells ⟨[.int .i64 0]⟩ 28 (0, 0)), blk b10 (.cells ⟨[.slice none 0 0]⟩ 326 (0, 0)), blk b5 (.cells ⟨[.int .i64 g.W, .int .i64 g.H, .int .i64 g.S, .slice la g.land.length lc, .slice ca cu.length cc, .slice wa wi.length wc, .int .i64 d.dl, .int .i64 d.dh, .int .i64 d.cl, .int .i64 d.ch, .bool d.jibes]⟩ 220 (0, 0))]) from H).swap
            simp only [List.cons_append, List.nil_append] at H
            ((repeat refine JC.seq ?_); refine JC.block ?_)
            ((repeat refine JC.seq ?_); refine JC.region ?_)
            refine JL.fieldAddr rfl Try.underlying220 rfl sh52 rfl ?_
            refine JL.loadB 13 H rfl sh52 rfl rfl rfl ?_
            refine JL.pure rfl rfl ?_
            have hsl := (H.unpackAt (i := 8) rfl).rowSl (j := j) (e := 62) (sz := 2) (enc := Cell.cs) (v := x.v) (l := x.l) (fun _ => rfl) (by rw [List.getElem?_append_left (by rw [List.length_map]; omega), List.getElem?_map, hmj2]; rfl) (by omega)
            rw [hxv] at hsl
            have hsl2 := Sl.recap (c' := x.l.length) hsl
            refine JL.call fb99 rfl rfl (region99_c g _ _ x.l _ (hl.grow H.below) hsl2 hgok hxin (by omega)) ?_
            rw [hfit.1]
            rintro _ w22 ⟨rv9, rfl, K⟩
            obtain ⟨qa, qc, rfl⟩ := K.row_slice (j := 0) rfl
            have H := H.join K
            refine ⟨_, rfl, ?_⟩
            refine JL.pure rfl rfl ?_
            refine JL.pure rfl rfl ?_
            refine JL.pure rfl rfl ?_
            refine JL.pure rfl rfl ?_
            refine JL.pure rfl rfl ?_
            refine JL.nil ?_
            ((repeat refine Ex.normal_block ?_); refine Ex.next ?_)
            ((repeat refine JC.seq ?_); refine JC.region ?_)
            refine JL.pure rfl rfl ?_
            refine JL.pure rfl rfl ?_
            refine JL.re 90 rfl (v' := .bool false) rfl ?_
            refine JL.nil ?_
            ((repeat refine Ex.normal_block ?_); refine Ex.next ?_)
            ((repeat refine JC.seq ?_); refine JC.cond rfl (fun h => by cases h) (fun _ => ?_))
            ((repeat refine JC.seq ?_); refine JC.skip ?_)
            ((repeat refine Ex.normal_block ?_); refine Ex.next ?_)
            ((repeat refine JC.seq ?_); refine JC.region ?_)
            refine JL.loadB 7 H rfl sh326 rfl rfl rfl ?_
            refine JL.loadB 3 H rfl sh54 rfl rfl rfl ?_
            refine JL.pure rfl rfl ?_
            refine JL.build s330 rfl rfl ?_
            refine JL.buildSlice H Try.underlying326 sh330 z330 rfl rfl rfl rfl rfl ?_
            intro b96 w23 H
            have hil : items'.length ≤ 65536 := by
              have h1 := congrArg List.length hit
              simp only [List.length_map, List.length_take] at h1
              have h2 := hB.ordlen
              omega
            refine JL.append1 (news := Grp.cs ⟨p, .slice qa (regOf g x.l).length qc, regOf g x.l⟩) 5 0 H Try.underlying326 ap330 rfl rfl rfl rfl rfl rfl (by omega) (by omega) rfl ?_
            intro v9 w24 H
            have H := H.upd (j := 5) (B := trow 330 5 Grp.cs v9 (items' ++ [⟨p, .slice qa (regOf g x.l).length qc, regOf g x.l⟩])) rfl (fun h hh => by rw [← trow_snoc]; exact hh)
            obtain ⟨va2, vc2, rfl⟩ := H.row_slice (j := 5) rfl
            refine JL.storeB 8 H rfl rfl sh326 rfl rfl rfl rfl rfl ?_
            intro w25 H
            refine JL.nil ?_
            (repeat refine Ex.normal_block ?_)
            have H := (((H.drop 0).front 5 rfl).unpack)
            have H := Own.pack (M := items'.map rowG ++ [_]) (H.cast (List.append_assoc _ [_] _))
            rw [show items'.map rowG ++ [runRow (.slice qa (regOf g x.l).length qc) (regOf g x.l)] = (items' ++ [(⟨p, .slice qa (regOf g x.l).length qc, regOf g x.l⟩ : Grp)]).map rowG by rw [List.map_append]; rfl] at H
            have H := H.perm (List.perm_middle (l₁ := [_, _, _, _])).symm
            exact Ex.round _ ⟨_, _, .inr ⟨rfl, by rw [List.map_append]; rfl⟩, rfl⟩ (Own.swap (X := [_, _, _, _, _, _, _, _, _, _, _, _, _, _]) H)
          · rintro D wr L ⟨ov', items', hpre, rfl⟩ H
            obtain ⟨_, hit9⟩ := hpre.resolve_left (by rintro ⟨h, _⟩; cases h)
            ((repeat refine Ex.normal_block ?_); refine Ex.next ?_)
            ((repeat refine JC.seq ?_); refine JC.region ?_)
            refine JL.arith rfl (by unfold In64; omega) rfl ?_
            refine JL.pure rfl rfl ?_
            refine JL.nil ?_
            (repeat refine Ex.normal_block ?_)
            have H := (((H.drop 1).drop 1).drop 1).front 3 rfl
            have H := (H.unpack.perm List.perm_middle)
            have H := Own.pack (M := dfr D :: ds.map dfr) H
            have H := H.perm (List.perm_middle (l₁ := [_, _])).symm
            refine Ex.againM (j + 1, D :: ds, ov', items') rfl ⟨rfl, rfl, rfl, rfl, rfl, rfl, rfl, rfl, trivial⟩ ⟨h74, ?_, H⟩ (by simp only; omega)
            simp only
            rw [hit9, hit, List.take_succ_eq_append_getElem (by omega), List.map_append, hmj]
            rfl
          · intro D c pre w2 L _ hf; exact hf.elim
        · intro h74
          (try simp only [Bool.not_eq_true', Bool.not_eq_false', decide_eq_true_eq, decide_eq_false_iff_not] at h74)
          have hjj : j = ord.length := by omega
          subst hjj
          have hml : m.length = ord.length := by rw [← hB.keys, List.length_map]
          rw [← hml, List.take_length] at hit
          have hil : items.length ≤ 65536 := by
            have h1 := congrArg List.length hit
            simp only [List.length_map] at h1
            have h2 := hB.ordlen
            omega
          ((repeat refine JC.seq ?_); refine JC.exit ?_)
          (repeat (first | refine Ex.exit_then ?_ | refine Ex.exit_miss (by decide) ?_))
          refine Ex.exit_hit ?_
          ((repeat refine Ex.normal_block ?_); refine Ex.next ?_)
          ((repeat refine JC.seq ?_); refine JC.region ?_)
          refine JL.loadB 3 H rfl sh326 rfl rfl rfl ?_
          refine JL.storeB 9 H rfl rfl sh326 rfl rfl rfl rfl rfl ?_
          intro w26 H
          refine JL.storeB 8 H rfl rfl sh28 rfl rfl rfl rfl rfl ?_
          intro w27 H
          refine JL.nil ?_
          ((repeat refine Ex.normal_block ?_); refine Ex.next ?_)
          ((repeat refine JC.seq ?_); refine JC.ret ?_)
          (repeat (first | refine Ex.ret_then ?_ | refine Ex.ret_block ?_))
          have H := (H.front 2 rfl).unpack
          exact Ex.retM2 (M := [_, _, _, _, _, _, _, _, _, _]) H rfl (fun w2 H2 => .cell rfl sh326 (LdAt.of_block (H2.get (i := 8) rfl).2 rfl)) (fun w2 H2 => .cell rfl sh28 (LdAt.of_block (H2.get (i := 7) rfl).2 rfl))
            (fun w2 H2 => .inr ⟨hknB, _, items, rfl, (by rw [hC] at hB; exact hB.groups hgok hsm hrr hit), hil, (((((((H2.drop 2).drop 2).drop 2).drop 2).drop 2).drop 2).drop 2).drop 2⟩)
end Go.J

namespace Go.J
open Go.RowKit Go.Proofs
set_option maxRecDepth 8000
set_option linter.unusedSimpArgs false
set_option linter.unusedVariables false
/-! drift: a region of a step -/
def nth2n {α : Type} (a b : α) (i : Nat) : α := if i = 0 then a else b
theorem step1_c (g : Grid) (lv : Value) (bB bS bL bA βb βl α0 α1 : Nat) (mB mL m0 m1 : List (Cell × Bool)) (i : Nat) (w : World) (hi : i < 3) (hl : SlR w lv g.land) (hg : g.ok = true)
    (g1 : LdAt w bB 0 (false, 1) (.map (some βb))) (g2 : LdAt w bS 0 (true, 4) (g.ev lv)) (g3 : LdAt w bL 0 (false, 1) (.map (some βl))) (g4 : ∀ j, j < 2 → LdAt w bA j (false, 1) (.map (some (nth2n α0 α1 j))))
    (l1 : bB < w.heap.size) (l2 : bS < w.heap.size) (l3 : bL < w.heap.size) (l4 : bA < w.heap.size) (kB : MapAt w βb mB) (kL : MapAt w βl mL) (k0 : MapAt w α0 m0) (k1 : MapAt w α1 m1) (tB : AllT mB) (t0 : AllT m0) (t1 : AllT m1)
    (iB : ∀ c, setR mB c = true → inG g c) (i0 : ∀ c, setR m0 c = true → inG g c) (i1 : ∀ c, setR m1 c = true → inG g c) :
    Calls Try.prog 237 #[.int .i64 i, .pointer (some ⟨bB, 0, none⟩), .pointer (some ⟨bS, 0, none⟩), .pointer (some ⟨bL, 0, none⟩), .pointer (some ⟨bA, 0, none⟩)] w (fun e w' => ResR w w' [] (runsR g (fun c => setR (nth3 m0 m1 mB i) c && (setR mL c == decide (i = 2)))) e) := by
  have small : ∀ {w' : World} {β : Nat} {m : List (Cell × Bool)}, MapAt w' β m → AllT m → (∀ c, setR m c = true → inG g c) → m.length ≤ 65536 := fun {w' β m} h ht hin => by
    obtain ⟨es, clock, hM, _⟩ := h
    exact keys_small hg hM.nodup ht hin
  obtain ⟨la, lc, rfl⟩ := hl.len
  refine calls_J (args := [.int .i64 i, .pointer (some ⟨bB, 0, none⟩), .pointer (some ⟨bS, 0, none⟩), .pointer (some ⟨bL, 0, none⟩), .pointer (some ⟨bA, 0, none⟩)]) Try.func237 rfl Try.ntmps237 rfl ?_
  have H := Own.start w
  ((repeat refine JC.seq ?_); refine JC.region ?_)
  refine JL.pure rfl rfl ?_
  refine JL.pure rfl rfl ?_
  refine JL.nil ?_
  ((repeat refine Ex.normal_block ?_); refine Ex.next ?_)
  ((repeat refine JC.seq ?_); refine JC.region ?_)
  refine JL.pure rfl rfl ?_
  refine JL.pure rfl rfl ?_
  refine JL.nil ?_
  ((repeat refine Ex.normal_block ?_); refine Ex.next ?_)
  ((repeat refine JC.seq ?_); refine JC.cond rfl ?_ ?_)
  · intro h9
    (try simp only [Bool.not_eq_true', Bool.not_eq_false', decide_eq_true_eq, decide_eq_false_iff_not] at h9)
    have hi2 : i = 2 := by omega
    ((repeat refine JC.seq ?_); refine JC.region ?_)
    refine JL.load rfl sh290 (g1.grow l1 H.below) rfl ?_
    refine JL.fieldAddr rfl Try.underlying220 rfl sh52 rfl ?_
    refine JL.load rfl sh52 (g2.grow l2 H.below) rfl ?_
    refine JL.load rfl sh290 (g3.grow l3 H.below) rfl ?_
    refine JL.call fb238 rfl rfl (setRegion_c g _ βb βl mB mL true _ (hl.grow H.below) hg (kB.grow H.below) (kL.grow H.below) tB iB (small kB tB iB)) ?_
    rintro _ w4 ⟨rv, rfl, K⟩
    have H := H.join K
    refine ⟨_, rfl, ?_⟩
    refine JL.pure rfl rfl ?_
    refine JL.pure rfl rfl ?_
    refine JL.pure rfl rfl ?_
    refine JL.pure rfl rfl ?_
    refine JL.nil ?_
    ((repeat refine Ex.normal_block ?_); refine Ex.next ?_)
    ((repeat refine JC.seq ?_); refine JC.ret ?_)
    (repeat (first | refine Ex.ret_then ?_ | refine Ex.ret_block ?_))
    refine Ex.ret2 rfl (.tmp rfl) (.tmp rfl) ?_
    subst hi2
    exact ⟨_, rfl, H⟩
  · intro h9
    (try simp only [Bool.not_eq_true', Bool.not_eq_false', decide_eq_true_eq, decide_eq_false_iff_not] at h9)
    have hi2 : ¬ i = 2 := by omega
    ((repeat refine JC.seq ?_); refine JC.skip ?_)
    ((repeat refine Ex.normal_block ?_); refine Ex.next ?_)
    ((repeat refine JC.seq ?_); refine JC.drawS H mixed ?_)
    intro w1 H
    refine DR.any 0 6 H (by kernel_rfl) ?_
    refine JD.pure rfl rfl ?_
    refine JD.indexA i rfl rfl Try.underlying325 sh290 rfl (by omega) rfl ?_
    refine JD.load rfl sh290 (fun w hw => (by have h9 := (g4 i (by omega)).grow l4 hw.below; rwa [show 0 + i * 1 = i by omega])) rfl ?_
    refine JD.fieldAddr rfl Try.underlying220 rfl sh52 rfl ?_
    refine JD.load rfl sh52 (fun w hw => g2.grow l2 hw.below) rfl ?_
    refine JD.load rfl sh290 (fun w hw => g3.grow l3 hw.below) rfl ?_
    refine JD.nil ?_
    intro w2 H
    show DR _ _ _ _ _ _ _
    refine DR.op rfl (by kernel_rfl) ?_
    refine JL.call fb238 rfl rfl (setRegion_c g _ (nth2n α0 α1 i) βl (nth2n m0 m1 i) mL false _ (hl.grow H.below) hg (by unfold nth2n; split; exact k0.grow H.below; exact k1.grow H.below) (kL.grow H.below) (by unfold nth2n; split; exact t0; exact t1) (by unfold nth2n; split; exact i0; exact i1)
      (by unfold nth2n; split; exact small k0 t0 i0; exact small k1 t1 i1)) ?_
    rintro _ w4 ⟨rv, rfl, K⟩
    have H := H.join K
    refine ⟨_, rfl, ?_⟩
    refine DR.next ?_
    refine DR.any 7 11 H (by kernel_rfl) ?_
    refine JD.pure rfl rfl ?_
    refine JD.pure rfl rfl ?_
    refine JD.pure rfl rfl ?_
    refine JD.pure rfl rfl ?_
    refine JD.nil ?_
    intro w3 H
    show DR _ _ _ _ _ _ _
    refine DR.done rfl ?_
    ((repeat refine Ex.normal_block ?_); refine Ex.next ?_)
    ((repeat refine JC.seq ?_); refine JC.ret ?_)
    (repeat (first | refine Ex.ret_then ?_ | refine Ex.ret_block ?_))
    refine Ex.ret2 rfl (.tmp rfl) (.tmp rfl) ?_
    have e1 : nth3 m0 m1 mB i = nth2n m0 m1 i := by
      unfold nth3 nth2n
      rcases (show i = 0 ∨ i = 1 by omega) with rfl | rfl <;> rfl
    rw [e1, decide_eq_false hi2]
    exact ⟨_, rfl, H⟩
end Go.J
