/-
  Lemmas for the statements of this seat; no statement is proved here. No condition.
-/
import Derived.Test.YtfbmgmdjaoackaaM6
import Derived.Test.YtfbmgmdjaoackaaM2
import Derived.Test.YtfbmgmdjaoackaaM3
import Derived.Deep.Slices
import Derived.Deep.Strs
import Derived.Lib.SmallJoins
import Derived.OpenShut
namespace Go.J
open Go.RowKit Go.Proofs
set_option maxRecDepth 8000
set_option linter.unusedSimpArgs false
set_option linter.unusedVariables false
/-! drift: where a drifter goes -/
theorem has63_c (v : Value) (rs : List Run) (c : Cell) (w : World) (hv : SlR w v rs) : Pur Try.prog 63 #[v, c.ev] w (.bool (hasB rs c)) := by
  obtain ⟨ra, rc, rfl⟩ := hv.len
  refine pur_J (args := [.slice ra rs.length rc, c.ev]) Try.func63 rfl Try.ntmps63 rfl ?_
  have H := Own.start w
  ((repeat refine JC.seq ?_); refine JC.region ?_)
  refine JL.box H rfl rfl rfl ?_
  intro b3 w1 H
  refine JL.pure rfl rfl ?_
  refine JL.nil ?_
  ((repeat refine Ex.normal_block ?_); refine Ex.next ?_)
  ((repeat refine JC.seq ?_); refine JC.region ?_)
  refine JL.pure rfl rfl ?_
  refine JL.nil ?_
  ((repeat refine Ex.normal_block ?_); refine Ex.next ?_)
  ((repeat refine JC.seq ?_); refine JC.block ?_)
  ((repeat refine JC.seq ?_); refine JC.loop (ι := Nat) (fun k => [(0, .slice ra rs.length rc), (3, .pointer (some ⟨b3, 0, none⟩)), (5, .int .i64 k)])
    (fun k wr => k ≤ rs.length ∧ hasB (rs.take k) c = false ∧ Own w wr [blk b3 (.cells ⟨[.int .i64 c.X, .int .i64 c.Y]⟩ 62 (0, 0))]) (fun k => rs.length - k) 0 ?_ ?_ ?_)
  · exact ⟨rfl, rfl, rfl, trivial⟩
  · exact ⟨Nat.zero_le _, rfl, H⟩
  · rintro k wr ⟨hk, hno, H⟩
    ((repeat refine JC.seq ?_); refine JC.region ?_)
    refine JL.pure rfl rfl ?_
    refine JL.pure rfl rfl ?_
    refine JL.len rfl Try.underlying50 rfl ?_
    refine JL.pure rfl rfl ?_
    refine JL.nil ?_
    ((repeat refine Ex.normal_block ?_); refine Ex.next ?_)
    ((repeat refine JC.seq ?_); refine JC.cond rfl ?_ ?_)
    · intro h9
      (try simp only [Bool.not_eq_true', Bool.not_eq_false', decide_eq_true_eq, decide_eq_false_iff_not] at h9)
      have h9 : k < rs.length := by omega
      have hal : rs.length ≤ 9223372036854775807 := hv.1
      obtain ⟨_, _, _, he1, ha'⟩ := id hv
      cases he1
      obtain ⟨β, off, hra, hβ, hc⟩ := ha'.resolve_left (by rintro rfl; simp at h9)
      have hx : rs[k]? = some rs[k] := by simp [h9]
      obtain ⟨f9, hfe⟩ : ∃ f, rs[k] = f := ⟨_, rfl⟩
      rw [hfe] at hx
      obtain ⟨ry, rf, rt⟩ := f9
      have hcx := hc k _ hx
      ((repeat refine JC.seq ?_); refine JC.skip ?_)
      ((repeat refine Ex.normal_block ?_); refine Ex.next ?_)
      ((repeat refine JC.seq ?_); refine JC.block ?_)
      ((repeat refine JC.seq ?_); refine JC.draw 28 H mixed (by kernel_rfl) rfl ?_)
      refine JD.pure rfl rfl ?_
      refine JD.pure rfl rfl ?_
      refine JD.indexS k (congrArg (fun z => some (Value.slice z rs.length rc)) hra) rfl Try.underlying50 sh140 rfl h9 rfl ?_
      refine JD.fieldAddr rfl Try.underlying140 rfl sh3 rfl ?_
      refine JD.load rfl sh3 (fun w hw => (LdAt.part (by have := hcx; exact this) 0 rfl 1).grow hβ hw.below) rfl ?_
      refine JD.fieldAddr rfl Try.underlying62 rfl sh3 rfl ?_
      refine JD.loadB 0 rfl sh3 rfl rfl rfl ?_
      refine JD.pure rfl rfl ?_
      refine JD.pure rfl rfl ?_
      refine JD.cases 20 rfl ?_ ?_
      · intro h20
        (try simp only [Bool.not_eq_true', Bool.not_eq_false', decide_eq_true_eq, decide_eq_false_iff_not] at h20)
        refine JD.want rfl rfl ?_
        refine JD.pure rfl rfl ?_
        refine JD.want rfl rfl ?_
        refine JD.pure rfl rfl ?_
        refine JD.want rfl rfl ?_
        refine JD.indexS k (congrArg (fun z => some (Value.slice z rs.length rc)) hra) rfl Try.underlying50 sh140 rfl h9 rfl ?_
        refine JD.want rfl rfl ?_
        refine JD.fieldAddr rfl Try.underlying140 rfl sh3 rfl ?_
        refine JD.want rfl rfl ?_
        refine JD.load rfl sh3 (fun w hw => (LdAt.part (by have := hcx; exact this) 1 rfl 1).grow hβ hw.below) rfl ?_
        refine JD.want rfl rfl ?_
        refine JD.fieldAddr rfl Try.underlying62 rfl sh3 rfl ?_
        refine JD.want rfl rfl ?_
        refine JD.loadB 0 rfl sh3 rfl rfl rfl ?_
        refine JD.want rfl rfl ?_
        refine JD.pure rfl rfl ?_
        refine JD.pure rfl rfl ?_
        refine JD.pure rfl rfl ?_
        refine JD.cases 30 rfl ?_ ?_
        · intro h30
          (try simp only [Bool.not_eq_true', Bool.not_eq_false', decide_eq_true_eq, decide_eq_false_iff_not] at h30)
          refine JD.want rfl rfl ?_
          refine JD.fieldAddr rfl Try.underlying62 rfl sh3 rfl ?_
          refine JD.want rfl rfl ?_
          refine JD.loadB 0 rfl sh3 rfl rfl rfl ?_
          refine JD.want rfl rfl ?_
          refine JD.pure rfl rfl ?_
          refine JD.want rfl rfl ?_
          refine JD.pure rfl rfl ?_
          refine JD.want rfl rfl ?_
          refine JD.indexS k (congrArg (fun z => some (Value.slice z rs.length rc)) hra) rfl Try.underlying50 sh140 rfl h9 rfl ?_
          refine JD.want rfl rfl ?_
          refine JD.fieldAddr rfl Try.underlying140 rfl sh3 rfl ?_
          refine JD.want rfl rfl ?_
          refine JD.load rfl sh3 (fun w hw => (LdAt.part (by have := hcx; exact this) 2 rfl 1).grow hβ hw.below) rfl ?_
          refine JD.want rfl rfl ?_
          refine JD.pure rfl rfl ?_
          refine JD.pure rfl rfl ?_
          refine JD.nil ?_
          intro w2 H
          show JL _ _ _ _ _ _ _
          refine JL.nil ?_
          ((repeat refine Ex.normal_block ?_); refine Ex.next ?_)
          ((repeat refine JC.seq ?_); refine JC.cond rfl ?_ ?_)
          · intro h39
            (try simp only [Bool.not_eq_true', Bool.not_eq_false', decide_eq_true_eq, decide_eq_false_iff_not] at h39)
            ((repeat refine JC.seq ?_); refine JC.region ?_)
            refine JL.pure rfl rfl ?_
            refine JL.nil ?_
            ((repeat refine Ex.normal_block ?_); refine Ex.next ?_)
            ((repeat refine JC.seq ?_); refine JC.ret ?_)
            (repeat (first | refine Ex.ret_then ?_ | refine Ex.ret_block ?_))
            refine Ex.ret1 rfl (.tmp rfl) ⟨?_, H.below⟩
            have : hasB rs c = true := by
              unfold hasB
              refine List.any_eq_true.2 ⟨_, List.mem_of_getElem? hx, ?_⟩
              unfold Run.has
              simp_all
            rw [this]
          · intro h39
            (try simp only [Bool.not_eq_true', Bool.not_eq_false', decide_eq_true_eq, decide_eq_false_iff_not] at h39)
            ((repeat refine JC.seq ?_); refine JC.skip ?_)
            ((repeat refine Ex.normal_block ?_); refine Ex.next ?_)
            ((repeat refine JC.seq ?_); refine JC.region ?_)
            refine JL.pure rfl rfl ?_
            refine JL.arith rfl (by unfold In64; omega) rfl ?_
            refine JL.pure rfl rfl ?_
            refine JL.nil ?_
            (repeat refine Ex.normal_block ?_)
            refine Ex.again (k + 1) ⟨rfl, rfl, rfl, trivial⟩ ⟨h9, ?_, H⟩ (by omega)
            unfold hasB at hno ⊢
            rw [List.take_succ_eq_append_getElem h9, List.any_append, hno, hfe]
            simp only [List.any_cons, List.any_nil, Bool.or_false, Bool.false_or]
            unfold Run.has
            simp_all <;> (intros; omega)
        · intro h30
          (try simp only [Bool.not_eq_true', Bool.not_eq_false', decide_eq_true_eq, decide_eq_false_iff_not] at h30)
          refine JD.pass rfl rfl rfl rfl ?_
          refine JD.pass rfl rfl rfl rfl ?_
          refine JD.pass rfl rfl rfl rfl ?_
          refine JD.pass rfl rfl rfl rfl ?_
          refine JD.pass rfl rfl rfl rfl ?_
          refine JD.pass rfl rfl rfl rfl ?_
          refine JD.pass rfl rfl rfl rfl ?_
          refine JD.pass rfl rfl rfl rfl ?_
          refine JD.pure rfl rfl ?_
          refine JD.nil ?_
          intro w3 H
          show JL _ _ _ _ _ _ _
          refine JL.nil ?_
          ((repeat refine Ex.normal_block ?_); refine Ex.next ?_)
          ((repeat refine JC.seq ?_); refine JC.cond rfl (fun h => by cases h) (fun _ => ?_))
          ((repeat refine JC.seq ?_); refine JC.skip ?_)
          ((repeat refine Ex.normal_block ?_); refine Ex.next ?_)
          ((repeat refine JC.seq ?_); refine JC.region ?_)
          refine JL.pure rfl rfl ?_
          refine JL.arith rfl (by unfold In64; omega) rfl ?_
          refine JL.pure rfl rfl ?_
          refine JL.nil ?_
          (repeat refine Ex.normal_block ?_)
          refine Ex.again (k + 1) ⟨rfl, rfl, rfl, trivial⟩ ⟨h9, ?_, H⟩ (by omega)
          unfold hasB at hno ⊢
          rw [List.take_succ_eq_append_getElem h9, List.any_append, hno, hfe]
          simp only [List.any_cons, List.any_nil, Bool.or_false, Bool.false_or]
          unfold Run.has
          simp_all <;> (intros; omega)
      · intro h20
        (try simp only [Bool.not_eq_true', Bool.not_eq_false', decide_eq_true_eq, decide_eq_false_iff_not] at h20)
        refine JD.pass rfl rfl rfl rfl ?_
        refine JD.pass rfl rfl rfl rfl ?_
        refine JD.pass rfl rfl rfl rfl ?_
        refine JD.pass rfl rfl rfl rfl ?_
        refine JD.pass rfl rfl rfl rfl ?_
        refine JD.pass rfl rfl rfl rfl ?_
        refine JD.pass rfl rfl rfl rfl ?_
        refine JD.pass rfl rfl rfl rfl ?_
        refine JD.pure rfl rfl ?_
        refine JD.pure rfl rfl ?_
        refine JD.pass rfl rfl rfl rfl ?_
        refine JD.pass rfl rfl rfl rfl ?_
        refine JD.pass rfl rfl rfl rfl ?_
        refine JD.pass rfl rfl rfl rfl ?_
        refine JD.pass rfl rfl rfl rfl ?_
        refine JD.pass rfl rfl rfl rfl ?_
        refine JD.pass rfl rfl rfl rfl ?_
        refine JD.pass rfl rfl rfl rfl ?_
        refine JD.pure rfl rfl ?_
        refine JD.nil ?_
        intro w4 H
        show JL _ _ _ _ _ _ _
        refine JL.nil ?_
        ((repeat refine Ex.normal_block ?_); refine Ex.next ?_)
        ((repeat refine JC.seq ?_); refine JC.cond rfl (fun h => by cases h) (fun _ => ?_))
        ((repeat refine JC.seq ?_); refine JC.skip ?_)
        ((repeat refine Ex.normal_block ?_); refine Ex.next ?_)
        ((repeat refine JC.seq ?_); refine JC.region ?_)
        refine JL.pure rfl rfl ?_
        refine JL.arith rfl (by unfold In64; omega) rfl ?_
        refine JL.pure rfl rfl ?_
        refine JL.nil ?_
        (repeat refine Ex.normal_block ?_)
        refine Ex.again (k + 1) ⟨rfl, rfl, rfl, trivial⟩ ⟨h9, ?_, H⟩ (by omega)
        unfold hasB at hno ⊢
        rw [List.take_succ_eq_append_getElem h9, List.any_append, hno, hfe]
        simp only [List.any_cons, List.any_nil, Bool.or_false, Bool.false_or]
        unfold Run.has
        simp_all <;> (intros; omega)
    · intro h9
      (try simp only [Bool.not_eq_true', Bool.not_eq_false', decide_eq_true_eq, decide_eq_false_iff_not] at h9)
      have hkk : k = rs.length := by omega
      ((repeat refine JC.seq ?_); refine JC.exit ?_)
      (repeat (first | refine Ex.exit_then ?_ | refine Ex.exit_miss (by decide) ?_))
      refine Ex.exit_hit ?_
      ((repeat refine Ex.normal_block ?_); refine Ex.next ?_)
      ((repeat refine JC.seq ?_); refine JC.region ?_)
      refine JL.pure rfl rfl ?_
      refine JL.nil ?_
      ((repeat refine Ex.normal_block ?_); refine Ex.next ?_)
      ((repeat refine JC.seq ?_); refine JC.ret ?_)
      (repeat (first | refine Ex.ret_then ?_ | refine Ex.ret_block ?_))
      refine Ex.ret1 rfl (.tmp rfl) ⟨?_, H.below⟩
      subst hkk
      rw [List.take_length] at hno
      rw [hno]
theorem flow193_c (v : Value) (fl : List Flow) (c : Cell) (time : Int) (w : World) (hf : FlowsIs w v fl) :
    Pur Try.prog 193 #[v, c.ev, .int .i64 time] w (.tuple #[.agg ⟨[.int .i64 (atR fl c time).1.low, .int .i64 (atR fl c time).2.1.low]⟩, .agg ⟨[.int .i64 (atR fl c time).1.high, .int .i64 (atR fl c time).2.1.high]⟩, .bool (atR fl c time).2.2]) := by
  obtain ⟨⟨hlen, a, cap, rfl, ha⟩, hfs⟩ := hf
  refine pur_J (args := [.slice a fl.length cap, c.ev, .int .i64 time]) Try.func193 rfl Try.ntmps193 rfl ?_
  have H := Own.start w
  ((repeat refine JC.seq ?_); refine JC.region ?_)
  refine JL.box H rfl rfl rfl ?_
  intro b4 w1 H
  refine JL.alloc H z23 rfl ?_
  intro b6 w2 H
  refine JL.alloc H z23 rfl ?_
  intro b7 w3 H
  refine JL.pure rfl rfl ?_
  refine JL.nil ?_
  ((repeat refine Ex.normal_block ?_); refine Ex.next ?_)
  ((repeat refine JC.seq ?_); refine JC.region ?_)
  refine JL.pure rfl rfl ?_
  refine JL.len rfl Try.underlying82 rfl ?_
  refine JL.pure rfl rfl ?_
  refine JL.nil ?_
  ((repeat refine Ex.normal_block ?_); refine Ex.next ?_)
  ((repeat refine JC.seq ?_); refine JC.block ?_)
  ((repeat refine JC.seq ?_); refine JC.loop (ι := Nat) (fun k => [(2, .int .i64 time), (4, .pointer (some ⟨b4, 0, none⟩)), (6, .pointer (some ⟨b6, 0, none⟩)), (7, .pointer (some ⟨b7, 0, none⟩)), (8, .bool (atR (fl.take k) c time).2.2), (11, .slice a fl.length cap), (12, .int .i64 fl.length), (13, .int .i64 k)])
    (fun k wr => k ≤ fl.length ∧ Own w wr [blk b7 (.cells ⟨[.int .i64 (atR (fl.take k) c time).1.high, .int .i64 (atR (fl.take k) c time).2.1.high]⟩ 23 (0, 0)), blk b6 (.cells ⟨[.int .i64 (atR (fl.take k) c time).1.low, .int .i64 (atR (fl.take k) c time).2.1.low]⟩ 23 (0, 0)), blk b4 (.cells ⟨[.int .i64 c.X, .int .i64 c.Y]⟩ 62 (0, 0))]) (fun k => fl.length - k) 0 ?_ ?_ ?_)
  · exact ⟨rfl, rfl, rfl, rfl, rfl, rfl, rfl, rfl, trivial⟩
  · exact ⟨Nat.zero_le _, H⟩
  · rintro k wr ⟨hk, H⟩
    obtain ⟨sc9, hsc9⟩ : ∃ s, s = atR (fl.take k) c time := ⟨_, rfl⟩
    rw [← hsc9] at H
    show JC _ _ _ _ [(2, .int .i64 time), (4, .pointer (some ⟨b4, 0, none⟩)), (6, .pointer (some ⟨b6, 0, none⟩)), (7, .pointer (some ⟨b7, 0, none⟩)), (8, .bool (atR (fl.take k) c time).2.2), (11, .slice a fl.length cap), (12, .int .i64 fl.length), (13, .int .i64 k)] _
    rw [← hsc9]
    ((repeat refine JC.seq ?_); refine JC.region ?_)
    refine JL.pure rfl rfl ?_
    refine JL.nil ?_
    ((repeat refine Ex.normal_block ?_); refine Ex.next ?_)
    ((repeat refine JC.seq ?_); refine JC.cond rfl ?_ ?_)
    · intro h14
      (try simp only [Bool.not_eq_true', Bool.not_eq_false', decide_eq_true_eq, decide_eq_false_iff_not] at h14)
      have h14 : k < fl.length := by omega
      obtain ⟨βr, off, rfl, hβ, hc⟩ := ha.resolve_left (by rintro rfl; simp at h14)
      have hx : fl[k]? = some fl[k] := by simp [h14]
      have hxs := hfs _ (List.getElem_mem h14)
      obtain ⟨f9, hfe⟩ : ∃ f, fl[k] = f := ⟨_, rfl⟩
      rw [hfe] at hx hxs
      obtain ⟨fr, to, wv, wh, low, high⟩ := f9
      simp only at hxs
      obtain ⟨fa, fc, rfl⟩ := hxs.len
      ((repeat refine JC.seq ?_); refine JC.skip ?_)
      ((repeat refine Ex.normal_block ?_); refine Ex.next ?_)
      ((repeat refine JC.seq ?_); refine JC.block ?_)
      ((repeat refine JC.seq ?_); refine JC.region ?_)
      refine JL.indexS k rfl rfl Try.underlying82 sh218 rfl h14 rfl ?_
      refine JL.load (v := .agg ⟨[.int .i64 fr, .int .i64 to, .slice fa wh.length fc, .int .i64 low.X, .int .i64 low.Y, .int .i64 high.X, .int .i64 high.Y]⟩) rfl sh218 ((hc k _ hx).grow hβ H.below) rfl ?_
      refine JL.alloc H z218 rfl ?_
      intro b10 w4 H
      refine JL.storeB 0 H rfl rfl sh218 rfl rfl rfl rfl rfl ?_
      intro w5 H
      refine JL.nil ?_
      ((repeat refine Ex.normal_block ?_); refine Ex.next ?_)
      ((repeat refine JC.seq ?_); refine JC.region ?_)
      refine JL.fieldAddr rfl Try.underlying218 rfl sh3 rfl ?_
      refine JL.loadB 0 H rfl sh3 rfl rfl rfl ?_
      refine JL.pure rfl rfl ?_
      refine JL.pure rfl rfl ?_
      refine JL.pure rfl rfl ?_
      refine JL.cases 21 rfl ?_ ?_
      · intro h21
        (try simp only [Bool.not_eq_true', Bool.not_eq_false', decide_eq_true_eq, decide_eq_false_iff_not] at h21)
        have hno : ¬((fr ≤ time ∧ time ≤ to - 1) ∧ hasB wh c = true) := by rintro ⟨h, _⟩; omega
        refine JL.pass rfl rfl rfl rfl ?_
        refine JL.pass rfl rfl rfl rfl ?_
        refine JL.pass rfl rfl rfl rfl ?_
        refine JL.pass rfl rfl rfl rfl ?_
        refine JL.pure rfl rfl ?_
        refine JL.pure rfl rfl ?_
        refine JL.pass rfl rfl rfl rfl ?_
        refine JL.pass rfl rfl rfl rfl ?_
        refine JL.pass rfl rfl rfl rfl ?_
        refine JL.pass rfl rfl rfl rfl ?_
        refine JL.pass rfl rfl rfl rfl ?_
        refine JL.pure rfl rfl ?_
        refine JL.nil ?_
        ((repeat refine Ex.normal_block ?_); refine Ex.next ?_)
        ((repeat refine JC.seq ?_); refine JC.cond rfl (fun _ => ?_) (fun h => by cases h))
        ((repeat refine JC.seq ?_); refine JC.exit ?_)
        (repeat (first | refine Ex.exit_then ?_ | refine Ex.exit_miss (by decide) ?_))
        refine Ex.exit_hit ?_
        ((repeat refine Ex.normal_block ?_); refine Ex.next ?_)
        ((repeat refine JC.seq ?_); refine JC.region ?_)
        refine JL.arith rfl (by unfold In64; omega) rfl ?_
        refine JL.pure rfl rfl ?_
        refine JL.nil ?_
        (repeat refine Ex.normal_block ?_)
        have hstep : atR (fl.take (k + 1)) c time = atStep c time sc9 ⟨fr, to, .slice fa wh.length fc, wh, low, high⟩ := by rw [atR_take h14, ← hsc9, hfe]
        have hnew : atStep c time sc9 ⟨fr, to, .slice fa wh.length fc, wh, low, high⟩ = sc9 := by
          unfold atStep; rw [if_neg hno]
        rw [hnew] at hstep
        refine Ex.again (k + 1) ⟨rfl, rfl, rfl, rfl, ?_, rfl, rfl, rfl, trivial⟩ ⟨h14, ?_⟩ (by omega)
        · rw [hstep]
          rfl
        · rw [hstep]
          exact H.drop 0
      · intro h21
        (try simp only [Bool.not_eq_true', Bool.not_eq_false', decide_eq_true_eq, decide_eq_false_iff_not] at h21)
        
        refine JL.want rfl rfl ?_
        refine JL.fieldAddr rfl Try.underlying218 rfl sh3 rfl ?_
        refine JL.want rfl rfl ?_
        refine JL.loadB 0 H rfl sh3 rfl rfl rfl ?_
        refine JL.want rfl rfl ?_
        refine JL.pure rfl rfl ?_
        refine JL.want rfl rfl ?_
        refine JL.pure rfl rfl ?_
        refine JL.pure rfl rfl ?_
        refine JL.pure rfl rfl ?_
        refine JL.cases 27 rfl ?_ ?_
        · intro h27
          (try simp only [Bool.not_eq_true', Bool.not_eq_false', decide_eq_true_eq, decide_eq_false_iff_not] at h27)
          have hno : ¬((fr ≤ time ∧ time ≤ to - 1) ∧ hasB wh c = true) := by rintro ⟨h, _⟩; omega
          refine JL.pass rfl rfl rfl rfl ?_
          refine JL.pass rfl rfl rfl rfl ?_
          refine JL.pass rfl rfl rfl rfl ?_
          refine JL.pass rfl rfl rfl rfl ?_
          refine JL.pass rfl rfl rfl rfl ?_
          refine JL.pure rfl rfl ?_
          refine JL.nil ?_
          ((repeat refine Ex.normal_block ?_); refine Ex.next ?_)
          ((repeat refine JC.seq ?_); refine JC.cond rfl (fun _ => ?_) (fun h => by cases h))
          ((repeat refine JC.seq ?_); refine JC.exit ?_)
          (repeat (first | refine Ex.exit_then ?_ | refine Ex.exit_miss (by decide) ?_))
          refine Ex.exit_hit ?_
          ((repeat refine Ex.normal_block ?_); refine Ex.next ?_)
          ((repeat refine JC.seq ?_); refine JC.region ?_)
          refine JL.arith rfl (by unfold In64; omega) rfl ?_
          refine JL.pure rfl rfl ?_
          refine JL.nil ?_
          (repeat refine Ex.normal_block ?_)
          have hstep : atR (fl.take (k + 1)) c time = atStep c time sc9 ⟨fr, to, .slice fa wh.length fc, wh, low, high⟩ := by rw [atR_take h14, ← hsc9, hfe]
          have hnew : atStep c time sc9 ⟨fr, to, .slice fa wh.length fc, wh, low, high⟩ = sc9 := by
            unfold atStep; rw [if_neg hno]
          rw [hnew] at hstep
          refine Ex.again (k + 1) ⟨rfl, rfl, rfl, rfl, ?_, rfl, rfl, rfl, trivial⟩ ⟨h14, ?_⟩ (by omega)
          · rw [hstep]
            rfl
          · rw [hstep]
            exact H.drop 0
        · intro h27
          (try simp only [Bool.not_eq_true', Bool.not_eq_false', decide_eq_true_eq, decide_eq_false_iff_not] at h27)
          have hyes : fr ≤ time ∧ time ≤ to - 1 := by omega
          refine JL.want rfl rfl ?_
          refine JL.fieldAddr rfl Try.underlying218 rfl sh50 rfl ?_
          refine JL.want rfl rfl ?_
          refine JL.loadB 0 H rfl sh50 rfl rfl rfl ?_
          refine JL.want rfl rfl ?_
          refine JL.loadB 3 H rfl sh62 rfl rfl rfl ?_
          refine JL.want rfl rfl ?_
          refine JL.callP H fb63 rfl rfl (has63_c _ wh c _ (hxs.grow H.below)) ?_
          intro w6 H _
          refine JL.want rfl rfl ?_
          refine JL.pure rfl rfl ?_
          refine JL.pure rfl rfl ?_
          refine JL.nil ?_
          ((repeat refine Ex.normal_block ?_); refine Ex.next ?_)
          ((repeat refine JC.seq ?_); refine JC.cond rfl ?_ ?_)
          · intro h33
            (try simp only [Bool.not_eq_true', Bool.not_eq_false', decide_eq_true_eq, decide_eq_false_iff_not] at h33)
            have hno : ¬((fr ≤ time ∧ time ≤ to - 1) ∧ hasB wh c = true) := by rintro ⟨_, h⟩; rw [h] at h33; simp at h33
            ((repeat refine JC.seq ?_); refine JC.exit ?_)
            (repeat (first | refine Ex.exit_then ?_ | refine Ex.exit_miss (by decide) ?_))
            refine Ex.exit_hit ?_
            ((repeat refine Ex.normal_block ?_); refine Ex.next ?_)
            ((repeat refine JC.seq ?_); refine JC.region ?_)
            refine JL.arith rfl (by unfold In64; omega) rfl ?_
            refine JL.pure rfl rfl ?_
            refine JL.nil ?_
            (repeat refine Ex.normal_block ?_)
            have hstep : atR (fl.take (k + 1)) c time = atStep c time sc9 ⟨fr, to, .slice fa wh.length fc, wh, low, high⟩ := by rw [atR_take h14, ← hsc9, hfe]
            have hnew : atStep c time sc9 ⟨fr, to, .slice fa wh.length fc, wh, low, high⟩ = sc9 := by
              unfold atStep; rw [if_neg hno]
            rw [hnew] at hstep
            refine Ex.again (k + 1) ⟨rfl, rfl, rfl, rfl, ?_, rfl, rfl, rfl, trivial⟩ ⟨h14, ?_⟩ (by omega)
            · rw [hstep]
              rfl
            · rw [hstep]
              exact H.drop 0
          · intro h33
            (try simp only [Bool.not_eq_true', Bool.not_eq_false', decide_eq_true_eq, decide_eq_false_iff_not] at h33)
            have hhas : hasB wh c = true := by simpa using h33
            ((repeat refine JC.seq ?_); refine JC.skip ?_)
            ((repeat refine Ex.normal_block ?_); refine Ex.next ?_)
            ((repeat refine JC.seq ?_); refine JC.region ?_)
            refine JL.pure rfl rfl ?_
            refine JL.pure rfl rfl ?_
            refine JL.nil ?_
            ((repeat refine Ex.normal_block ?_); refine Ex.next ?_)
            ((repeat refine JC.seq ?_); refine JC.cond rfl ?_ ?_)
            · intro h35
              (try simp only [Bool.not_eq_true', Bool.not_eq_false', decide_eq_true_eq, decide_eq_false_iff_not] at h35)
              have hkn : sc9.2.2 = false := by simpa using h35
              ((repeat refine JC.seq ?_); refine JC.drawE 5 [4] (fun p => bif Nat.beq p 0 then [blk b10 (.cells ⟨[.int .i64 fr, .int .i64 to, .slice fa wh.length fc, .int .i64 low.X, .int .i64 low.Y, .int .i64 high.X, .int .i64 high.Y]⟩ 218 (0, 0)), blk b7 (.cells ⟨[.int .i64 sc9.1.high, .int .i64 sc9.2.1.high]⟩ 23 (0, 0)), blk b6 (.cells ⟨[.int .i64 sc9.1.low, .int .i64 sc9.2.1.low]⟩ 23 (0, 0)), blk b4 (.cells ⟨[.int .i64 c.X, .int .i64 c.Y]⟩ 62 (0, 0))] else [blk b10 (.cells ⟨[.int .i64 fr, .int .i64 to, .slice fa wh.length fc, .int .i64 low.X, .int .i64 low.Y, .int .i64 high.X, .int .i64 high.Y]⟩ 218 (0, 0)), blk b7 (.cells ⟨[.int .i64 sc9.1.high, .int .i64 sc9.2.1.high]⟩ 23 (0, 0)), blk b6 (.cells ⟨[.int .i64 low.X, .int .i64 low.Y]⟩ 23 (0, 0)), blk b4 (.cells ⟨[.int .i64 c.X, .int .i64 c.Y]⟩ 62 (0, 0))]) H rfl mixed (by kernel_rfl) rfl ?_)
              refine JD.fieldAddr rfl Try.underlying218 rfl sh23 rfl ?_
              refine JD.loadK rfl sh23 (by
                rintro (_ | _ | p) w hp hK
                · exact LdAt.of_block (Own.get (i := 0) hK rfl).2 rfl
                · exact LdAt.of_block (Own.get (i := 0) hK rfl).2 rfl
                · simp at hp) rfl ?_
              refine JD.fieldAddr rfl Try.underlying218 rfl sh23 rfl ?_
              refine JD.loadK rfl sh23 (by
                rintro (_ | _ | p) w hp hK
                · exact LdAt.of_block (Own.get (i := 0) hK rfl).2 rfl
                · exact LdAt.of_block (Own.get (i := 0) hK rfl).2 rfl
                · simp at hp) rfl ?_
              refine JD.storeB 0 2 (by rintro (_ | _ | p) hp h; rfl; exact absurd h (by decide); simp at hp) rfl rfl rfl sh23 rfl rfl rfl rfl rfl rfl ?_
              refine JD.nil ?_
              intro w7 H
              show JL _ _ _ _ _ _ _
              refine JL.storeB 1 H rfl rfl sh23 rfl rfl rfl rfl rfl ?_
              intro w8 H
              refine JL.pure rfl rfl ?_
              refine JL.nil ?_
              ((repeat refine Ex.normal_block ?_); refine Ex.next ?_)
              ((repeat refine JC.seq ?_); refine JC.region ?_)
              refine JL.fieldAddr rfl Try.underlying23 rfl sh3 rfl ?_
              refine JL.loadB 2 H rfl sh3 rfl rfl rfl ?_
              refine JL.fieldAddr rfl Try.underlying218 rfl sh23 rfl ?_
              refine JL.fieldAddr rfl Try.underlying23 rfl sh3 rfl ?_
              refine JL.loadB 0 H rfl sh3 rfl rfl rfl ?_
              refine JL.pure rfl rfl ?_
              refine JL.fieldAddr rfl Try.underlying23 rfl sh3 rfl ?_
              refine JL.loadB 2 H rfl sh3 rfl rfl rfl ?_
              refine JL.fieldAddr rfl Try.underlying218 rfl sh23 rfl ?_
              refine JL.fieldAddr rfl Try.underlying23 rfl sh3 rfl ?_
              refine JL.loadB 0 H rfl sh3 rfl rfl rfl ?_
              refine JL.pure rfl rfl ?_
              refine JL.build s23 rfl rfl ?_
              refine JL.storeB 2 H rfl rfl sh23 rfl rfl rfl rfl rfl ?_
              intro w9 H
              refine JL.nil ?_
              ((repeat refine Ex.normal_block ?_); refine Ex.next ?_)
              ((repeat refine JC.seq ?_); refine JC.region ?_)
              refine JL.fieldAddr rfl Try.underlying23 rfl sh3 rfl ?_
              refine JL.loadB 1 H rfl sh3 rfl rfl rfl ?_
              refine JL.fieldAddr rfl Try.underlying218 rfl sh23 rfl ?_
              refine JL.fieldAddr rfl Try.underlying23 rfl sh3 rfl ?_
              refine JL.loadB 0 H rfl sh3 rfl rfl rfl ?_
              refine JL.pure rfl rfl ?_
              refine JL.fieldAddr rfl Try.underlying23 rfl sh3 rfl ?_
              refine JL.loadB 1 H rfl sh3 rfl rfl rfl ?_
              refine JL.fieldAddr rfl Try.underlying218 rfl sh23 rfl ?_
              refine JL.fieldAddr rfl Try.underlying23 rfl sh3 rfl ?_
              refine JL.loadB 0 H rfl sh3 rfl rfl rfl ?_
              refine JL.pure rfl rfl ?_
              refine JL.build s23 rfl rfl ?_
              refine JL.storeB 1 H rfl rfl sh23 rfl rfl rfl rfl rfl ?_
              intro w10 H
              refine JL.nil ?_
              ((repeat refine Ex.normal_block ?_); refine Ex.next ?_)
              ((repeat refine JC.seq ?_); refine JC.region ?_)
              refine JL.arith rfl (by unfold In64; omega) rfl ?_
              refine JL.pure rfl rfl ?_
              refine JL.nil ?_
              (repeat refine Ex.normal_block ?_)
              have hstep : atR (fl.take (k + 1)) c time = atStep c time sc9 ⟨fr, to, .slice fa wh.length fc, wh, low, high⟩ := by rw [atR_take h14, ← hsc9, hfe]
              have hnew : atStep c time sc9 ⟨fr, to, .slice fa wh.length fc, wh, low, high⟩ = (⟨min low.X low.X, max high.X high.X⟩, ⟨min low.Y low.Y, max high.Y high.Y⟩, true) := by
                unfold atStep; rw [if_pos ⟨hyes, hhas⟩, if_neg (by simp [hkn])]; simp
              rw [hnew] at hstep
              refine Ex.again (k + 1) ⟨rfl, rfl, rfl, rfl, ?_, rfl, rfl, rfl, trivial⟩ ⟨h14, ?_⟩ (by omega)
              · rw [hstep]
                rfl
              · rw [hstep]
                exact H.drop 0
            · intro h35
              (try simp only [Bool.not_eq_true', Bool.not_eq_false', decide_eq_true_eq, decide_eq_false_iff_not] at h35)
              have hkn : sc9.2.2 = true := by simpa using h35
              ((repeat refine JC.seq ?_); refine JC.skip ?_)
              ((repeat refine Ex.normal_block ?_); refine Ex.next ?_)
              ((repeat refine JC.seq ?_); refine JC.region ?_)
              refine JL.fieldAddr rfl Try.underlying23 rfl sh3 rfl ?_
              refine JL.loadB 2 H rfl sh3 rfl rfl rfl ?_
              refine JL.fieldAddr rfl Try.underlying218 rfl sh23 rfl ?_
              refine JL.fieldAddr rfl Try.underlying23 rfl sh3 rfl ?_
              refine JL.loadB 0 H rfl sh3 rfl rfl rfl ?_
              refine JL.pure rfl rfl ?_
              refine JL.fieldAddr rfl Try.underlying23 rfl sh3 rfl ?_
              refine JL.loadB 2 H rfl sh3 rfl rfl rfl ?_
              refine JL.fieldAddr rfl Try.underlying218 rfl sh23 rfl ?_
              refine JL.fieldAddr rfl Try.underlying23 rfl sh3 rfl ?_
              refine JL.loadB 0 H rfl sh3 rfl rfl rfl ?_
              refine JL.pure rfl rfl ?_
              refine JL.build s23 rfl rfl ?_
              refine JL.storeB 2 H rfl rfl sh23 rfl rfl rfl rfl rfl ?_
              intro w11 H
              refine JL.nil ?_
              ((repeat refine Ex.normal_block ?_); refine Ex.next ?_)
              ((repeat refine JC.seq ?_); refine JC.region ?_)
              refine JL.fieldAddr rfl Try.underlying23 rfl sh3 rfl ?_
              refine JL.loadB 1 H rfl sh3 rfl rfl rfl ?_
              refine JL.fieldAddr rfl Try.underlying218 rfl sh23 rfl ?_
              refine JL.fieldAddr rfl Try.underlying23 rfl sh3 rfl ?_
              refine JL.loadB 0 H rfl sh3 rfl rfl rfl ?_
              refine JL.pure rfl rfl ?_
              refine JL.fieldAddr rfl Try.underlying23 rfl sh3 rfl ?_
              refine JL.loadB 1 H rfl sh3 rfl rfl rfl ?_
              refine JL.fieldAddr rfl Try.underlying218 rfl sh23 rfl ?_
              refine JL.fieldAddr rfl Try.underlying23 rfl sh3 rfl ?_
              refine JL.loadB 0 H rfl sh3 rfl rfl rfl ?_
              refine JL.pure rfl rfl ?_
              refine JL.build s23 rfl rfl ?_
              refine JL.storeB 1 H rfl rfl sh23 rfl rfl rfl rfl rfl ?_
              intro w12 H
              refine JL.nil ?_
              ((repeat refine Ex.normal_block ?_); refine Ex.next ?_)
              ((repeat refine JC.seq ?_); refine JC.region ?_)
              refine JL.arith rfl (by unfold In64; omega) rfl ?_
              refine JL.pure rfl rfl ?_
              refine JL.nil ?_
              (repeat refine Ex.normal_block ?_)
              have hstep : atR (fl.take (k + 1)) c time = atStep c time sc9 ⟨fr, to, .slice fa wh.length fc, wh, low, high⟩ := by rw [atR_take h14, ← hsc9, hfe]
              have hnew : atStep c time sc9 ⟨fr, to, .slice fa wh.length fc, wh, low, high⟩ = (⟨min sc9.1.low low.X, max sc9.1.high high.X⟩, ⟨min sc9.2.1.low low.Y, max sc9.2.1.high high.Y⟩, sc9.2.2) := by
                unfold atStep; rw [if_pos ⟨hyes, hhas⟩, if_pos hkn, hkn]
              rw [hnew] at hstep
              refine Ex.again (k + 1) ⟨rfl, rfl, rfl, rfl, ?_, rfl, rfl, rfl, trivial⟩ ⟨h14, ?_⟩ (by omega)
              · rw [hstep]
                rfl
              · rw [hstep]
                exact H.drop 0
    · intro h14
      (try simp only [Bool.not_eq_true', Bool.not_eq_false', decide_eq_true_eq, decide_eq_false_iff_not] at h14)
      have hkk : k = fl.length := by omega
      subst hkk
      rw [List.take_length] at hsc9
      ((repeat refine JC.seq ?_); refine JC.exit ?_)
      (repeat (first | refine Ex.exit_then ?_ | refine Ex.exit_miss (by decide) ?_))
      refine Ex.exit_hit ?_
      ((repeat refine Ex.normal_block ?_); refine Ex.next ?_)
      ((repeat refine JC.seq ?_); refine JC.drawE 5 [3, 4] (fun _ => [blk b7 (.cells ⟨[.int .i64 sc9.1.high, .int .i64 sc9.2.1.high]⟩ 23 (0, 0)), blk b6 (.cells ⟨[.int .i64 sc9.1.low, .int .i64 sc9.2.1.low]⟩ 23 (0, 0)), blk b4 (.cells ⟨[.int .i64 c.X, .int .i64 c.Y]⟩ 62 (0, 0))]) H rfl mixed (by kernel_rfl) rfl ?_)
      refine JD.loadK rfl sh23 (by
        rintro p w hp hK
        exact LdAt.of_block (Own.get (i := 1) hK rfl).2 rfl) rfl ?_
      refine JD.loadK rfl sh23 (by
        rintro p w hp hK
        exact LdAt.of_block (Own.get (i := 0) hK rfl).2 rfl) rfl ?_
      refine JD.pure rfl rfl ?_
      refine JD.storeB 0 1 (by rintro (_ | _ | _ | p) hp h; rfl; exact absurd h (by decide); exact absurd h (by decide); simp at hp) rfl rfl rfl sh23 rfl rfl rfl rfl rfl rfl ?_
      refine JD.storeB 1 0 (by rintro (_ | _ | _ | p) hp h; exact absurd h (by decide); rfl; exact absurd h (by decide); simp at hp) rfl rfl rfl sh23 rfl rfl rfl rfl rfl rfl ?_
      refine JD.nil ?_
      intro w13 H
      show JL _ _ _ _ _ _ _
      refine JL.pure rfl rfl ?_
      refine JL.nil ?_
      ((repeat refine Ex.normal_block ?_); refine Ex.next ?_)
      ((repeat refine JC.seq ?_); refine JC.ret ?_)
      (repeat (first | refine Ex.ret_then ?_ | refine Ex.ret_block ?_))
      refine Ex.ret3 rfl (.cell rfl sh23 (LdAt.of_block (H.get (i := 1) rfl).2 rfl)) (.cell rfl sh23 (LdAt.of_block (H.get (i := 0) rfl).2 rfl)) (.tmp rfl) ⟨?_, H.below⟩
      rw [← hsc9]
theorem tdiv_mil (n : Int) : (0 ≤ n ∧ n.tdiv 1000000 = n / 1000000 ∧ n.tmod 1000000 = n % 1000000) ∨ (n < 0 ∧ n.tdiv 1000000 = -((-n) / 1000000) ∧ n.tmod 1000000 = -((-n) % 1000000)) := by
  rcases Int.lt_or_le n 0 with h | h
  · right
    refine ⟨h, ?_, ?_⟩
    · rw [← Int.tdiv_eq_ediv_of_nonneg (by omega), Int.neg_tdiv, Int.neg_neg]
    · rw [← Int.tmod_eq_emod_of_nonneg (by omega), Int.neg_tmod, Int.neg_neg]
  · exact .inl ⟨h, Int.tdiv_eq_ediv_of_nonneg h, Int.tmod_eq_emod_of_nonneg h⟩
theorem next194_c (n : Int) (up : Bool) (w : World) (hn : -1000000000000000 ≤ n ∧ n ≤ 1000000000000000) : Pur Try.prog 194 #[.int .i64 n, .bool up] w (.int .i64 (nextI n up)) := by
  refine pur_J (args := [.int .i64 n, .bool up]) Try.func194 rfl Try.ntmps194 rfl ?_
  have H := Own.start w
  have ht := tdiv_mil n
  have hw : w64 (n.tdiv 1000000) = n.tdiv 1000000 := w64_id (by unfold In64; omega)
  ((repeat refine JC.seq ?_); refine JC.region ?_)
  refine JL.pure rfl rfl ?_
  refine JL.nil ?_
  ((repeat refine Ex.normal_block ?_); refine Ex.next ?_)
  ((repeat refine JC.seq ?_); refine JC.region ?_)
  refine JL.pure rfl rfl ?_
  refine JL.quo rfl rfl (by decide) rfl ?_
  refine JL.re 7 rfl (v' := .int .i64 (n.tdiv 1000000)) (by rw [hw]) ?_
  refine JL.pure rfl rfl ?_
  refine JL.nil ?_
  ((repeat refine Ex.normal_block ?_); refine Ex.next ?_)
  ((repeat refine JC.seq ?_); refine JC.region ?_)
  refine JL.pure rfl rfl ?_
  refine JL.rem rfl rfl (by decide) rfl ?_
  refine JL.pure rfl rfl ?_
  refine JL.nil ?_
  ((repeat refine Ex.normal_block ?_); refine Ex.next ?_)
  ((repeat refine JC.seq ?_); refine JC.cond rfl ?_ ?_)
  · intro h10
    (try simp only [Bool.not_eq_true', Bool.not_eq_false', decide_eq_true_eq, decide_eq_false_iff_not] at h10)
    ((repeat refine JC.seq ?_); refine JC.region ?_)
    refine JL.pure rfl rfl ?_
    refine JL.arith rfl (by unfold In64; omega) rfl ?_
    refine JL.pure rfl rfl ?_
    refine JL.nil ?_
    ((repeat refine Ex.normal_block ?_); refine Ex.next ?_)
    ((repeat refine JC.seq ?_); refine JC.region ?_)
    refine JL.pure rfl rfl ?_
    refine JL.pure rfl rfl ?_
    refine JL.cases 14 rfl ?_ ?_
    · intro h14
      (try simp only [Bool.not_eq_true', Bool.not_eq_false', decide_eq_true_eq, decide_eq_false_iff_not] at h14)
      refine JL.want rfl rfl ?_
      refine JL.pure rfl rfl ?_
      refine JL.want rfl rfl ?_
      refine JL.arith rfl (by unfold In64; omega) rfl ?_
      refine JL.want rfl rfl ?_
      refine JL.pure rfl rfl ?_
      refine JL.want rfl rfl ?_
      refine JL.pure rfl rfl ?_
      refine JL.pure rfl rfl ?_
      refine JL.nil ?_
      ((repeat refine Ex.normal_block ?_); refine Ex.next ?_)
      ((repeat refine JC.seq ?_); refine JC.cond rfl ?_ ?_)
      · intro h19
        (try simp only [Bool.not_eq_true', Bool.not_eq_false', decide_eq_true_eq, decide_eq_false_iff_not] at h19)
        ((repeat refine JC.seq ?_); refine JC.region ?_)
        refine JL.pure rfl rfl ?_
        refine JL.arith rfl (by unfold In64; omega) rfl ?_
        refine JL.pure rfl rfl ?_
        refine JL.nil ?_
        ((repeat refine Ex.normal_block ?_); refine Ex.next ?_)
        ((repeat refine JC.seq ?_); refine JC.region ?_)
        refine JL.pure rfl rfl ?_
        refine JL.pure rfl rfl ?_
        refine JL.nil ?_
        ((repeat refine Ex.normal_block ?_); refine Ex.next ?_)
        ((repeat refine JC.seq ?_); refine JC.ret ?_)
        (repeat (first | refine Ex.ret_then ?_ | refine Ex.ret_block ?_))
        refine Ex.ret1 rfl (.tmp rfl) ⟨?_, H.below⟩
        unfold nextI
        refine congrArg (fun z => Ending.returned (Value.int .i64 z)) ?_
        subst h14
        simp only [Bool.true_and, Bool.false_and, decide_eq_true_eq, Bool.false_eq_true, if_false]
        first | omega | (split <;> omega)
      · intro h19
        (try simp only [Bool.not_eq_true', Bool.not_eq_false', decide_eq_true_eq, decide_eq_false_iff_not] at h19)
        ((repeat refine JC.seq ?_); refine JC.skip ?_)
        ((repeat refine Ex.normal_block ?_); refine Ex.next ?_)
        ((repeat refine JC.seq ?_); refine JC.region ?_)
        refine JL.pure rfl rfl ?_
        refine JL.pure rfl rfl ?_
        refine JL.nil ?_
        ((repeat refine Ex.normal_block ?_); refine Ex.next ?_)
        ((repeat refine JC.seq ?_); refine JC.ret ?_)
        (repeat (first | refine Ex.ret_then ?_ | refine Ex.ret_block ?_))
        refine Ex.ret1 rfl (.tmp rfl) ⟨?_, H.below⟩
        unfold nextI
        refine congrArg (fun z => Ending.returned (Value.int .i64 z)) ?_
        subst h14
        simp only [Bool.true_and, Bool.false_and, decide_eq_true_eq, Bool.false_eq_true, if_false]
        first | omega | (split <;> omega)
    · intro h14
      (try simp only [Bool.not_eq_true', Bool.not_eq_false', decide_eq_true_eq, decide_eq_false_iff_not] at h14)
      refine JL.pass rfl rfl rfl rfl ?_
      refine JL.pass rfl rfl rfl rfl ?_
      refine JL.pass rfl rfl rfl rfl ?_
      refine JL.pass rfl rfl rfl rfl ?_
      refine JL.pure rfl rfl ?_
      refine JL.nil ?_
      ((repeat refine Ex.normal_block ?_); refine Ex.next ?_)
      ((repeat refine JC.seq ?_); refine JC.cond rfl (fun h => by cases h) (fun _ => ?_))
      ((repeat refine JC.seq ?_); refine JC.skip ?_)
      ((repeat refine Ex.normal_block ?_); refine Ex.next ?_)
      ((repeat refine JC.seq ?_); refine JC.region ?_)
      refine JL.pure rfl rfl ?_
      refine JL.pure rfl rfl ?_
      refine JL.nil ?_
      ((repeat refine Ex.normal_block ?_); refine Ex.next ?_)
      ((repeat refine JC.seq ?_); refine JC.ret ?_)
      (repeat (first | refine Ex.ret_then ?_ | refine Ex.ret_block ?_))
      refine Ex.ret1 rfl (.tmp rfl) ⟨?_, H.below⟩
      unfold nextI
      refine congrArg (fun z => Ending.returned (Value.int .i64 z)) ?_
      subst h14
      simp only [Bool.true_and, Bool.false_and, decide_eq_true_eq, Bool.false_eq_true, if_false]
      first | omega | (split <;> omega)
  · intro h10
    (try simp only [Bool.not_eq_true', Bool.not_eq_false', decide_eq_true_eq, decide_eq_false_iff_not] at h10)
    ((repeat refine JC.seq ?_); refine JC.skip ?_)
    ((repeat refine Ex.normal_block ?_); refine Ex.next ?_)
    ((repeat refine JC.seq ?_); refine JC.region ?_)
    refine JL.pure rfl rfl ?_
    refine JL.pure rfl rfl ?_
    refine JL.cases 14 rfl ?_ ?_
    · intro h14
      (try simp only [Bool.not_eq_true', Bool.not_eq_false', decide_eq_true_eq, decide_eq_false_iff_not] at h14)
      refine JL.want rfl rfl ?_
      refine JL.pure rfl rfl ?_
      refine JL.want rfl rfl ?_
      refine JL.arith rfl (by unfold In64; omega) rfl ?_
      refine JL.want rfl rfl ?_
      refine JL.pure rfl rfl ?_
      refine JL.want rfl rfl ?_
      refine JL.pure rfl rfl ?_
      refine JL.pure rfl rfl ?_
      refine JL.nil ?_
      ((repeat refine Ex.normal_block ?_); refine Ex.next ?_)
      ((repeat refine JC.seq ?_); refine JC.cond rfl ?_ ?_)
      · intro h19
        (try simp only [Bool.not_eq_true', Bool.not_eq_false', decide_eq_true_eq, decide_eq_false_iff_not] at h19)
        ((repeat refine JC.seq ?_); refine JC.region ?_)
        refine JL.pure rfl rfl ?_
        refine JL.arith rfl (by unfold In64; omega) rfl ?_
        refine JL.pure rfl rfl ?_
        refine JL.nil ?_
        ((repeat refine Ex.normal_block ?_); refine Ex.next ?_)
        ((repeat refine JC.seq ?_); refine JC.region ?_)
        refine JL.pure rfl rfl ?_
        refine JL.pure rfl rfl ?_
        refine JL.nil ?_
        ((repeat refine Ex.normal_block ?_); refine Ex.next ?_)
        ((repeat refine JC.seq ?_); refine JC.ret ?_)
        (repeat (first | refine Ex.ret_then ?_ | refine Ex.ret_block ?_))
        refine Ex.ret1 rfl (.tmp rfl) ⟨?_, H.below⟩
        unfold nextI
        refine congrArg (fun z => Ending.returned (Value.int .i64 z)) ?_
        subst h14
        simp only [Bool.true_and, Bool.false_and, decide_eq_true_eq, Bool.false_eq_true, if_false]
        first | omega | (split <;> omega)
      · intro h19
        (try simp only [Bool.not_eq_true', Bool.not_eq_false', decide_eq_true_eq, decide_eq_false_iff_not] at h19)
        ((repeat refine JC.seq ?_); refine JC.skip ?_)
        ((repeat refine Ex.normal_block ?_); refine Ex.next ?_)
        ((repeat refine JC.seq ?_); refine JC.region ?_)
        refine JL.pure rfl rfl ?_
        refine JL.pure rfl rfl ?_
        refine JL.nil ?_
        ((repeat refine Ex.normal_block ?_); refine Ex.next ?_)
        ((repeat refine JC.seq ?_); refine JC.ret ?_)
        (repeat (first | refine Ex.ret_then ?_ | refine Ex.ret_block ?_))
        refine Ex.ret1 rfl (.tmp rfl) ⟨?_, H.below⟩
        unfold nextI
        refine congrArg (fun z => Ending.returned (Value.int .i64 z)) ?_
        subst h14
        simp only [Bool.true_and, Bool.false_and, decide_eq_true_eq, Bool.false_eq_true, if_false]
        first | omega | (split <;> omega)
    · intro h14
      (try simp only [Bool.not_eq_true', Bool.not_eq_false', decide_eq_true_eq, decide_eq_false_iff_not] at h14)
      refine JL.pass rfl rfl rfl rfl ?_
      refine JL.pass rfl rfl rfl rfl ?_
      refine JL.pass rfl rfl rfl rfl ?_
      refine JL.pass rfl rfl rfl rfl ?_
      refine JL.pure rfl rfl ?_
      refine JL.nil ?_
      ((repeat refine Ex.normal_block ?_); refine Ex.next ?_)
      ((repeat refine JC.seq ?_); refine JC.cond rfl (fun h => by cases h) (fun _ => ?_))
      ((repeat refine JC.seq ?_); refine JC.skip ?_)
      ((repeat refine Ex.normal_block ?_); refine Ex.next ?_)
      ((repeat refine JC.seq ?_); refine JC.region ?_)
      refine JL.pure rfl rfl ?_
      refine JL.pure rfl rfl ?_
      refine JL.nil ?_
      ((repeat refine Ex.normal_block ?_); refine Ex.next ?_)
      ((repeat refine JC.seq ?_); refine JC.ret ?_)
      (repeat (first | refine Ex.ret_then ?_ | refine Ex.ret_block ?_))
      refine Ex.ret1 rfl (.tmp rfl) ⟨?_, H.below⟩
      unfold nextI
      refine congrArg (fun z => Ending.returned (Value.int .i64 z)) ?_
      subst h14
      simp only [Bool.true_and, Bool.false_and, decide_eq_true_eq, Bool.false_eq_true, if_false]
      first | omega | (split <;> omega)
end Go.J

namespace Go.J
open Go.RowKit Go.Proofs
set_option maxRecDepth 8000
set_option linter.unusedSimpArgs false
set_option linter.unusedVariables false
/-! drift: where a drifter is -/
theorem lands102_c (g : Grid) (lv : Value) (t : Int) (lf rf bf : Value) (l r b : List Run) (off : Bool) (X Y : Int) (lsv : Value) (ls : List (Value × List Run)) (w : World) (hgk : g.ok = true) (hl : SlR w lv g.land) (h1 : SlR w lf l) (h2 : SlR w rf r) (h3 : SlR w bf b) (hs : Sl Prod.fst (false, 1) w lsv ls) (hr : ∀ p ∈ ls, SlR w p.1 p.2)
    (hX : In64 X) (hY : In64 Y) :
    Pur Try.prog 102 #[g.ev lv, Patch.ev ⟨t, lf, l, rf, r, bf, b, off⟩, .agg ⟨[.int .i64 X, .int .i64 Y]⟩, lsv] w (.bool (landsB g off b X Y (ls.map Prod.snd))) := by
  obtain ⟨la, lc, rfl⟩ := hl.len
  obtain ⟨a1, d1, rfl⟩ := h1.len
  obtain ⟨a2, d2, rfl⟩ := h2.len
  obtain ⟨a3, d3, rfl⟩ := h3.len
  obtain ⟨sa, sc, rfl⟩ := hs.len
  obtain ⟨hW, hH, hS, _⟩ := Grid.ok_b hgk
  have hWS := mul_bd (M := 0) (show 0 ≤ g.W by omega) hW.2 (show 0 ≤ g.S by omega) hS.2
  have hHS := mul_bd (M := 0) (show 0 ≤ g.H by omega) hH.2 (show 0 ≤ g.S by omega) hS.2
  unfold In64 at hX hY
  obtain ⟨R, hR⟩ : ∃ R, R = landsB g off b X Y (ls.map Prod.snd) := ⟨_, rfl⟩
  rw [← hR]
  unfold landsB at hR
  refine pur_J (args := [g.ev (.slice la g.land.length lc), .agg ⟨[.int .i64 t, .slice a1 l.length d1, .slice a2 r.length d2, .slice a3 b.length d3, .bool off]⟩, .agg ⟨[.int .i64 X, .int .i64 Y]⟩, .slice sa ls.length sc]) Try.func102 rfl Try.ntmps102 rfl ?_
  have H := Own.start w
  ((repeat refine JC.seq ?_); refine JC.region ?_)
  refine JL.box H rfl rfl rfl ?_
  intro b4 w1 H
  refine JL.box H rfl rfl rfl ?_
  intro b5 w2 H
  refine JL.box H rfl rfl rfl ?_
  intro b6 w3 H
  refine JL.pure rfl rfl ?_
  refine JL.nil ?_
  ((repeat refine Ex.normal_block ?_); refine Ex.next ?_)
  ((repeat refine JC.seq ?_); refine JC.regionTo ([(3, .slice sa ls.length sc), (4, .pointer (some ⟨b4, 0, none⟩)), (5, .pointer (some ⟨b5, 0, none⟩)), (6, .pointer (some ⟨b6, 0, none⟩)), (39, .bool (decide (X < 0 ∨ Y < 0 ∨ X ≥ g.W * g.S ∨ Y ≥ g.H * g.S)))]) (fun wr => Own w wr [blk b6 (.cells ⟨[.int .i64 X, .int .i64 Y]⟩ 23 (0, 0)), blk b5 (.cells ⟨[.int .i64 t, .slice a1 l.length d1, .slice a2 r.length d2, .slice a3 b.length d3, .bool off]⟩ 90 (0, 0)), blk b4 (.cells ⟨[.int .i64 g.W, .int .i64 g.H, .int .i64 g.S, .slice la g.land.length lc]⟩ 52 (0, 0))]) ?_ ?_)
  ·
    refine JL.fieldAddr rfl Try.underlying23 rfl sh3 rfl ?_
    refine JL.loadB 0 H rfl sh3 rfl rfl rfl ?_
    refine JL.pure rfl rfl ?_
    refine JL.pure rfl rfl ?_
    refine JL.cases 15 rfl ?_ ?_
    · intro h15
      (try simp only [Bool.not_eq_true', Bool.not_eq_false', decide_eq_true_eq, decide_eq_false_iff_not] at h15)
      refine JL.pass rfl rfl rfl rfl ?_
      refine JL.pass rfl rfl rfl rfl ?_
      refine JL.pass rfl rfl rfl rfl ?_
      refine JL.pure rfl rfl ?_
      refine JL.pure rfl rfl ?_
      refine JL.pass rfl rfl rfl rfl ?_
      refine JL.pass rfl rfl rfl rfl ?_
      refine JL.pass rfl rfl rfl rfl ?_
      refine JL.pass rfl rfl rfl rfl ?_
      refine JL.pass rfl rfl rfl rfl ?_
      refine JL.pass rfl rfl rfl rfl ?_
      refine JL.pass rfl rfl rfl rfl ?_
      refine JL.pass rfl rfl rfl rfl ?_
      refine JL.pure rfl rfl ?_
      refine JL.pure rfl rfl ?_
      refine JL.pass rfl rfl rfl rfl ?_
      refine JL.pass rfl rfl rfl rfl ?_
      refine JL.pass rfl rfl rfl rfl ?_
      refine JL.pass rfl rfl rfl rfl ?_
      refine JL.pass rfl rfl rfl rfl ?_
      refine JL.pass rfl rfl rfl rfl ?_
      refine JL.pass rfl rfl rfl rfl ?_
      refine JL.pass rfl rfl rfl rfl ?_
      refine JL.pure rfl rfl ?_
      refine JL.nil ?_
      refine Ex.to ⟨rfl, rfl, rfl, rfl, ?_, trivial⟩ H
      show some (Value.bool _) = some (Value.bool _)
      congr 2
      first | (symm; rw [decide_eq_true_eq]; omega) | (rw [decide_eq_decide]; omega) | (rw [Bool.eq_iff_iff]; simp only [decide_eq_true_eq]; omega)
    · intro h15
      (try simp only [Bool.not_eq_true', Bool.not_eq_false', decide_eq_true_eq, decide_eq_false_iff_not] at h15)
      refine JL.want rfl rfl ?_
      refine JL.fieldAddr rfl Try.underlying23 rfl sh3 rfl ?_
      refine JL.want rfl rfl ?_
      refine JL.loadB 0 H rfl sh3 rfl rfl rfl ?_
      refine JL.want rfl rfl ?_
      refine JL.pure rfl rfl ?_
      refine JL.pure rfl rfl ?_
      refine JL.pure rfl rfl ?_
      refine JL.cases 20 rfl ?_ ?_
      · intro h20
        (try simp only [Bool.not_eq_true', Bool.not_eq_false', decide_eq_true_eq, decide_eq_false_iff_not] at h20)
        refine JL.pass rfl rfl rfl rfl ?_
        refine JL.pass rfl rfl rfl rfl ?_
        refine JL.pass rfl rfl rfl rfl ?_
        refine JL.pass rfl rfl rfl rfl ?_
        refine JL.pass rfl rfl rfl rfl ?_
        refine JL.pass rfl rfl rfl rfl ?_
        refine JL.pass rfl rfl rfl rfl ?_
        refine JL.pass rfl rfl rfl rfl ?_
        refine JL.pure rfl rfl ?_
        refine JL.pure rfl rfl ?_
        refine JL.pass rfl rfl rfl rfl ?_
        refine JL.pass rfl rfl rfl rfl ?_
        refine JL.pass rfl rfl rfl rfl ?_
        refine JL.pass rfl rfl rfl rfl ?_
        refine JL.pass rfl rfl rfl rfl ?_
        refine JL.pass rfl rfl rfl rfl ?_
        refine JL.pass rfl rfl rfl rfl ?_
        refine JL.pass rfl rfl rfl rfl ?_
        refine JL.pure rfl rfl ?_
        refine JL.nil ?_
        refine Ex.to ⟨rfl, rfl, rfl, rfl, ?_, trivial⟩ H
        show some (Value.bool _) = some (Value.bool _)
        congr 2
        first | (symm; rw [decide_eq_true_eq]; omega) | (rw [decide_eq_decide]; omega) | (rw [Bool.eq_iff_iff]; simp only [decide_eq_true_eq]; omega)
      · intro h20
        (try simp only [Bool.not_eq_true', Bool.not_eq_false', decide_eq_true_eq, decide_eq_false_iff_not] at h20)
        refine JL.want rfl rfl ?_
        refine JL.fieldAddr rfl Try.underlying23 rfl sh3 rfl ?_
        refine JL.want rfl rfl ?_
        refine JL.loadB 0 H rfl sh3 rfl rfl rfl ?_
        refine JL.want rfl rfl ?_
        refine JL.fieldAddr rfl Try.underlying52 rfl sh3 rfl ?_
        refine JL.want rfl rfl ?_
        refine JL.loadB 2 H rfl sh3 rfl rfl rfl ?_
        refine JL.want rfl rfl ?_
        refine JL.fieldAddr rfl Try.underlying52 rfl sh3 rfl ?_
        refine JL.want rfl rfl ?_
        refine JL.loadB 2 H rfl sh3 rfl rfl rfl ?_
        refine JL.want rfl rfl ?_
        refine JL.arith rfl (show In64 (g.W * g.S) by unfold In64; omega) rfl ?_
        refine JL.want rfl rfl ?_
        refine JL.pure rfl rfl ?_
        refine JL.pure rfl rfl ?_
        refine JL.pure rfl rfl ?_
        refine JL.cases 30 rfl ?_ ?_
        · intro h30
          (try simp only [Bool.not_eq_true', Bool.not_eq_false', decide_eq_true_eq, decide_eq_false_iff_not] at h30)
          refine JL.pass rfl rfl rfl rfl ?_
          refine JL.pass rfl rfl rfl rfl ?_
          refine JL.pass rfl rfl rfl rfl ?_
          refine JL.pass rfl rfl rfl rfl ?_
          refine JL.pass rfl rfl rfl rfl ?_
          refine JL.pass rfl rfl rfl rfl ?_
          refine JL.pass rfl rfl rfl rfl ?_
          refine JL.pass rfl rfl rfl rfl ?_
          refine JL.pure rfl rfl ?_
          refine JL.nil ?_
          refine Ex.to ⟨rfl, rfl, rfl, rfl, ?_, trivial⟩ H
          show some (Value.bool _) = some (Value.bool _)
          congr 2
          first | (symm; rw [decide_eq_true_eq]; omega) | (rw [decide_eq_decide]; omega) | (rw [Bool.eq_iff_iff]; simp only [decide_eq_true_eq]; omega)
        · intro h30
          (try simp only [Bool.not_eq_true', Bool.not_eq_false', decide_eq_true_eq, decide_eq_false_iff_not] at h30)
          refine JL.want rfl rfl ?_
          refine JL.fieldAddr rfl Try.underlying23 rfl sh3 rfl ?_
          refine JL.want rfl rfl ?_
          refine JL.loadB 0 H rfl sh3 rfl rfl rfl ?_
          refine JL.want rfl rfl ?_
          refine JL.fieldAddr rfl Try.underlying52 rfl sh3 rfl ?_
          refine JL.want rfl rfl ?_
          refine JL.loadB 2 H rfl sh3 rfl rfl rfl ?_
          refine JL.want rfl rfl ?_
          refine JL.fieldAddr rfl Try.underlying52 rfl sh3 rfl ?_
          refine JL.want rfl rfl ?_
          refine JL.loadB 2 H rfl sh3 rfl rfl rfl ?_
          refine JL.want rfl rfl ?_
          refine JL.arith rfl (show In64 (g.H * g.S) by unfold In64; omega) rfl ?_
          refine JL.want rfl rfl ?_
          refine JL.pure rfl rfl ?_
          refine JL.pure rfl rfl ?_
          refine JL.nil ?_
          refine Ex.to ⟨rfl, rfl, rfl, rfl, ?_, trivial⟩ H
          show some (Value.bool _) = some (Value.bool _)
          congr 2
          first | (symm; rw [decide_eq_true_eq]; omega) | (rw [decide_eq_decide]; omega) | (rw [Bool.eq_iff_iff]; simp only [decide_eq_true_eq]; omega)
  · intro wc H
    ((repeat refine Ex.normal_block ?_); refine Ex.next ?_)
    ((repeat refine JC.seq ?_); refine JC.cond rfl ?_ ?_)
    · intro h39
      (try simp only [Bool.not_eq_true', Bool.not_eq_false', decide_eq_true_eq, decide_eq_false_iff_not] at h39)
      have h39b : X < 0 ∨ Y < 0 ∨ X ≥ g.W * g.S ∨ Y ≥ g.H * g.S := by simpa using h39
      ((repeat refine JC.seq ?_); refine JC.region ?_)
      refine JL.fieldAddr rfl Try.underlying90 rfl sh4 rfl ?_
      refine JL.loadB 1 H rfl sh4 rfl rfl rfl ?_
      refine JL.pure rfl rfl ?_
      refine JL.nil ?_
      ((repeat refine Ex.normal_block ?_); refine Ex.next ?_)
      ((repeat refine JC.seq ?_); refine JC.ret ?_)
      (repeat (first | refine Ex.ret_then ?_ | refine Ex.ret_block ?_))
      refine Ex.ret1 rfl (.tmp rfl) ⟨?_, H.below⟩
      rw [hR, if_pos h39b]
    · intro h39
      (try simp only [Bool.not_eq_true', Bool.not_eq_false', decide_eq_true_eq, decide_eq_false_iff_not] at h39)
      have h39b : ¬ (X < 0 ∨ Y < 0 ∨ X ≥ g.W * g.S ∨ Y ≥ g.H * g.S) := by simpa using h39
      ((repeat refine JC.seq ?_); refine JC.skip ?_)
      ((repeat refine Ex.normal_block ?_); refine Ex.next ?_)
      ((repeat refine JC.seq ?_); refine JC.draw 13 H mixed (by kernel_rfl) rfl ?_)
      refine JD.fieldAddr rfl Try.underlying23 rfl sh3 rfl ?_
      refine JD.loadB 0 rfl sh3 rfl rfl rfl ?_
      refine JD.fieldAddr rfl Try.underlying52 rfl sh3 rfl ?_
      refine JD.loadB 2 rfl sh3 rfl rfl rfl ?_
      refine JD.quoP rfl rfl (by omega) hS.1 (by omega) rfl ?_
      refine JD.fieldAddr rfl Try.underlying23 rfl sh3 rfl ?_
      refine JD.loadB 0 rfl sh3 rfl rfl rfl ?_
      refine JD.fieldAddr rfl Try.underlying52 rfl sh3 rfl ?_
      refine JD.loadB 2 rfl sh3 rfl rfl rfl ?_
      refine JD.quoP rfl rfl (by omega) hS.1 (by omega) rfl ?_
      refine JD.build s62 rfl rfl ?_
      refine JD.allocS 12 (.tmp 52) z62 rfl rfl ?_
      refine JD.storeF rfl rfl rfl sh62 rfl rfl rfl ?_
      refine JD.nil ?_
      intro w4 v9 H
      obtain ⟨b9, rfl, H⟩ := H.ptr (j := 0) rfl
      show JL _ _ _ _ _ _ _
      refine JL.nil ?_
      ((repeat refine Ex.normal_block ?_); refine Ex.next ?_)
      ((repeat refine JC.seq ?_); refine JC.region ?_)
      refine JL.fieldAddr rfl Try.underlying52 rfl sh50 rfl ?_
      refine JL.loadB 3 H rfl sh50 rfl rfl rfl ?_
      refine JL.loadB 0 H rfl sh62 rfl rfl rfl ?_
      refine JL.callP H fb63 rfl rfl (has63_c _ g.land ⟨X / g.S, Y / g.S⟩ _ (hl.grow H.below)) ?_
      intro w5 H _
      refine JL.nil ?_
      ((repeat refine Ex.normal_block ?_); refine Ex.next ?_)
      ((repeat refine JC.seq ?_); refine JC.cond rfl ?_ ?_)
      · intro h56
        (try simp only [Bool.not_eq_true', Bool.not_eq_false', decide_eq_true_eq, decide_eq_false_iff_not] at h56)
        ((repeat refine JC.seq ?_); refine JC.region ?_)
        refine JL.fieldAddr rfl Try.underlying90 rfl sh50 rfl ?_
        refine JL.loadB 2 H rfl sh50 rfl rfl rfl ?_
        refine JL.loadB 0 H rfl sh62 rfl rfl rfl ?_
        refine JL.callP H fb63 rfl rfl (has63_c _ b ⟨X / g.S, Y / g.S⟩ _ (h3.grow H.below)) ?_
        intro w6 H _
        refine JL.pure rfl rfl ?_
        refine JL.nil ?_
        ((repeat refine Ex.normal_block ?_); refine Ex.next ?_)
        ((repeat refine JC.seq ?_); refine JC.ret ?_)
        (repeat (first | refine Ex.ret_then ?_ | refine Ex.ret_block ?_))
        refine Ex.ret1 rfl (.tmp rfl) ⟨?_, H.below⟩
        rw [hR, if_neg h39b, if_pos h56]
      · intro h56
        (try simp only [Bool.not_eq_true', Bool.not_eq_false', decide_eq_true_eq, decide_eq_false_iff_not] at h56)
        ((repeat refine JC.seq ?_); refine JC.skip ?_)
        ((repeat refine Ex.normal_block ?_); refine Ex.next ?_)
        ((repeat refine JC.seq ?_); refine JC.region ?_)
        refine JL.pure rfl rfl ?_
        refine JL.len rfl Try.underlying134 rfl ?_
        refine JL.pure rfl rfl ?_
        refine JL.nil ?_
        ((repeat refine Ex.normal_block ?_); refine Ex.next ?_)
        ((repeat refine JC.seq ?_); refine JC.block ?_)
        ((repeat refine JC.seq ?_); refine JC.loop (ι := Nat) (fun k => [(9, .pointer (some ⟨b9, 0, none⟩)), (61, .slice sa ls.length sc), (62, .int .i64 ls.length), (63, .int .i64 k)])
          (fun k wr => k ≤ ls.length ∧ (∀ (i : Nat) (h : i < ls.length), i < k → hasB ls[i].2 ⟨X / g.S, Y / g.S⟩ = true) ∧ Own w wr [blk b9 (.cells ⟨[.int .i64 (X / g.S), .int .i64 (Y / g.S)]⟩ 62 (0, 0)), blk b6 (.cells ⟨[.int .i64 X, .int .i64 Y]⟩ 23 (0, 0)), blk b5 (.cells ⟨[.int .i64 t, .slice a1 l.length d1, .slice a2 r.length d2, .slice a3 b.length d3, .bool off]⟩ 90 (0, 0)), blk b4 (.cells ⟨[.int .i64 g.W, .int .i64 g.H, .int .i64 g.S, .slice la g.land.length lc]⟩ 52 (0, 0))]) (fun k => ls.length - k) 0 ?_ ?_ ?_)
        · exact ⟨rfl, rfl, rfl, rfl, trivial⟩
        · exact ⟨Nat.zero_le _, fun i _ hi => by omega, H⟩
        · rintro k wr ⟨hk, hno, H⟩
          ((repeat refine JC.seq ?_); refine JC.region ?_)
          refine JL.pure rfl rfl ?_
          refine JL.nil ?_
          ((repeat refine Ex.normal_block ?_); refine Ex.next ?_)
          ((repeat refine JC.seq ?_); refine JC.cond rfl ?_ ?_)
          · intro h64
            (try simp only [Bool.not_eq_true', Bool.not_eq_false', decide_eq_true_eq, decide_eq_false_iff_not] at h64)
            have h64 : k < ls.length := by omega
            have hx : ls[k]? = some ls[k] := by simp [h64]
            obtain ⟨xa, xc, hxv⟩ := (hr _ (List.getElem_mem h64)).len
            obtain ⟨_, _, _, he1, hs'⟩ := id hs
            cases he1
            obtain ⟨β, ofs, hsa, hβ, hc⟩ := hs'.resolve_left (by rintro rfl; simp at h64)
            ((repeat refine JC.seq ?_); refine JC.skip ?_)
            ((repeat refine Ex.normal_block ?_); refine Ex.next ?_)
            ((repeat refine JC.seq ?_); refine JC.block ?_)
            ((repeat refine JC.seq ?_); refine JC.region ?_)
            refine JL.indexS k (congrArg (fun z => some (Value.slice z ls.length sc)) hsa) rfl Try.underlying134 sh50 rfl h64 rfl ?_
            refine JL.load rfl sh50 (by have := (hc k _ hx).grow hβ H.below; rw [hxv] at this; exact this) rfl ?_
            refine JL.pure rfl rfl ?_
            refine JL.nil ?_
            ((repeat refine Ex.normal_block ?_); refine Ex.next ?_)
            ((repeat refine JC.seq ?_); refine JC.region ?_)
            refine JL.pure rfl rfl ?_
            refine JL.loadB 0 H rfl sh62 rfl rfl rfl ?_
            refine JL.callP H fb63 rfl rfl (has63_c _ ls[k].2 ⟨X / g.S, Y / g.S⟩ _ (by have := hr _ (List.getElem_mem h64); rw [hxv] at this; exact this.grow H.below)) ?_
            intro w7 H _
            refine JL.pure rfl rfl ?_
            refine JL.nil ?_
            ((repeat refine Ex.normal_block ?_); refine Ex.next ?_)
            ((repeat refine JC.seq ?_); refine JC.cond rfl ?_ ?_)
            · intro h70
              (try simp only [Bool.not_eq_true', Bool.not_eq_false', decide_eq_true_eq, decide_eq_false_iff_not] at h70)
              ((repeat refine JC.seq ?_); refine JC.region ?_)
              refine JL.pure rfl rfl ?_
              refine JL.nil ?_
              ((repeat refine Ex.normal_block ?_); refine Ex.next ?_)
              ((repeat refine JC.seq ?_); refine JC.ret ?_)
              (repeat (first | refine Ex.ret_then ?_ | refine Ex.ret_block ?_))
              refine Ex.ret1 rfl (.tmp rfl) ⟨?_, H.below⟩
              rw [hR, if_neg h39b, if_neg (by simpa using h56)]
              have : ((ls.map Prod.snd).all fun r => hasB r ⟨X / g.S, Y / g.S⟩) = false := by
                rw [List.all_map, List.all_eq_false]
                exact ⟨_, List.getElem_mem h64, by simpa using h70⟩
              rw [this]
            · intro h70
              (try simp only [Bool.not_eq_true', Bool.not_eq_false', decide_eq_true_eq, decide_eq_false_iff_not] at h70)
              ((repeat refine JC.seq ?_); refine JC.skip ?_)
              ((repeat refine Ex.normal_block ?_); refine Ex.next ?_)
              ((repeat refine JC.seq ?_); refine JC.region ?_)
              refine JL.arith rfl (by unfold In64; omega) rfl ?_
              refine JL.pure rfl rfl ?_
              refine JL.nil ?_
              (repeat refine Ex.normal_block ?_)
              refine Ex.again (k + 1) ⟨rfl, rfl, rfl, rfl, trivial⟩ ⟨h64, fun i h hi => ?_, H⟩ (by omega)
              by_cases hik : i = k
              · subst hik; simpa using h70
              · exact hno i h (by omega)
          · intro h64
            (try simp only [Bool.not_eq_true', Bool.not_eq_false', decide_eq_true_eq, decide_eq_false_iff_not] at h64)
            
            ((repeat refine JC.seq ?_); refine JC.exit ?_)
            (repeat (first | refine Ex.exit_then ?_ | refine Ex.exit_miss (by decide) ?_))
            refine Ex.exit_hit ?_
            ((repeat refine Ex.normal_block ?_); refine Ex.next ?_)
            ((repeat refine JC.seq ?_); refine JC.region ?_)
            refine JL.pure rfl rfl ?_
            refine JL.nil ?_
            ((repeat refine Ex.normal_block ?_); refine Ex.next ?_)
            ((repeat refine JC.seq ?_); refine JC.ret ?_)
            (repeat (first | refine Ex.ret_then ?_ | refine Ex.ret_block ?_))
            refine Ex.ret1 rfl (.tmp rfl) ⟨?_, H.below⟩
            rw [hR, if_neg h39b, if_neg (by simpa using h56)]
            have : ((ls.map Prod.snd).all fun r => hasB r ⟨X / g.S, Y / g.S⟩) = true := by
              rw [List.all_map, List.all_eq_true]
              intro x hx
              obtain ⟨i, hi, rfl⟩ := List.getElem_of_mem hx
              exact hno i hi (by omega)
            rw [this]
end Go.J

namespace Go.J
set_option linter.unusedSimpArgs false
set_option linter.unusedVariables false
open Go.RowKit Go.Proofs Go.ChangeShapes
set_option maxRecDepth 8000
theorem list_of {α : Type} {p : Nat → α → Prop} : ∀ n : Nat, (∀ i, i < n → ∃ x, p i x) → ∃ l : List α, l.length = n ∧ ∀ i x, l[i]? = some x → p i x := by
  intro n
  induction n with
  | zero => intro _; exact ⟨[], rfl, fun i x h => by simp at h⟩
  | succ n ih =>
    intro h
    obtain ⟨l, h1, h2⟩ := ih fun i hi => h i (by omega)
    obtain ⟨x, hx⟩ := h n (by omega)
    refine ⟨l ++ [x], by simp [h1], fun i y hy => ?_⟩
    rcases Nat.lt_or_ge i n with hi | hi
    · rw [List.getElem?_append_left (by omega)] at hy; exact h2 i y hy
    · rw [List.getElem?_append_right (by omega)] at hy
      have : i = n := by
        rcases Nat.eq_or_lt_of_le hi with h | h
        · exact h.symm
        · rw [List.getElem?_eq_none (by simp; omega)] at hy; cases hy
      subst this
      simp [h1] at hy
      subst hy
      exact hx
theorem cells3 {w : World} {base : Nat} {A : Addr} {u0 u1 u2 : Value} (h : w.cells? base A 3 = some [u0, u1, u2]) : w.cell? A = some u0 ∧ w.cell? (A.add 1) = some u1 ∧ w.cell? (A.add 2) = some u2 := by
  unfold World.cells? at h
  split at h
  · have e : List.range 3 = [0, 1, 2] := rfl
    rw [e] at h
    simp only [List.mapM_cons, List.mapM_nil] at h
    have e0 : A.add 0 = A := rfl
    rw [e0] at h
    cases h0 : w.cell? A with
    | none => rw [h0] at h; cases h
    | some x0 => cases h1 : w.cell? (A.add 1) with
      | none => rw [h0, h1] at h; cases h
      | some x1 => cases h2 : w.cell? (A.add 2) with
        | none => rw [h0, h1, h2] at h; cases h
        | some x2 =>
          rw [h0, h1, h2] at h
          have h' : some [x0, x1, x2] = some [u0, u1, u2] := h
          cases h'
          exact ⟨rfl, rfl, rfl⟩
  · cases h
theorem open_runs {H : Type} {enc : TypeId × Value → H} {w : World} {base : Nat} {spare : Nat → Bool} {held : Bool} {fuel : Nat} {v : Value} {x : DataW H × List MemPlace} (h : DataW.trod enc Try.prog w base spare held fuel 50 [v] = some x) :
    ∃ rs : List Run, SlR w v rs ∧ capOK v := by
  rcases Go.Deep.open_slice Try.underlying50 h with ⟨h1, _⟩ | ⟨a, len, cap, m, n, D, Pl, h1, hb, hl, hm, hmm, _, hx⟩
  · cases h1
    exact ⟨[], ⟨by simp, none, 0, rfl, .inl rfl⟩, Nat.le_refl _⟩
  · cases h1
    have hc : Try.prog.cellsOf 140 = 3 := by kernel_rfl
    rw [hc] at hx
    have hlm : len ≤ m := by rw [hmm]; split <;> omega
    have hget : ∀ i, i < len → ∃ r : Run, ∃ cs', cs' = Run.cs r ∧ w.cells? base (a.add (i * 3)) 3 = some cs' := by
      intro i hi
      obtain ⟨cs', h2, h3⟩ := hx i (by omega)
      obtain ⟨y0, y1, y2, k, _, hlen, g0, g1, g2⟩ := Go.Deep.trod_struct3 Try.underlying140 h3
      have hc3 : Try.prog.cellsOf 3 = 1 := by kernel_rfl
      rw [hc] at hlen
      match cs', hlen with
      | [c0, c1, c2], _ =>
        simp only [hc3] at g0 g1 g2
        obtain ⟨n0, e0, _, _⟩ := DataW.trod_int Try.underlying3 g0
        obtain ⟨n1, e1, _, _⟩ := DataW.trod_int Try.underlying3 g1
        obtain ⟨n2, e2, _, _⟩ := DataW.trod_int Try.underlying3 g2
        simp at e0 e1 e2
        subst e0 e1 e2
        exact ⟨⟨n0, n1, n2⟩, _, rfl, h2⟩
    obtain ⟨rs, hl1, hl2⟩ := list_of len hget
    refine ⟨rs, ?_, hl⟩
    refine ⟨by rw [hl1]; simp only [maxLen] at hm; omega, some a, cap, by rw [hl1], ?_⟩
    by_cases h0 : rs = []
    · exact .inl h0
    · right
      have hpos : 0 < rs.length := List.length_pos_iff.2 h0
      obtain ⟨cs0, q1, q2⟩ := hl2 0 rs[0] (by simp [hpos])
      subst q1
      have q3 := (cells3 q2).1
      have ha : a.add (0 * 3) = a := rfl
      rw [ha] at q3
      obtain ⟨β, off, spot⟩ := a
      have hsp : spot = none := by
        cases spot with
        | none => rfl
        | some z => simp only [World.cell?] at q3; split at q3 <;> simp at q3
      subst hsp
      have hadd : ∀ k, (⟨β, off, none⟩ : Addr).add k = ⟨β, off + k, none⟩ := by
        intro k; unfold Addr.add; split <;> simp_all
      refine ⟨β, off, rfl, ?_, fun i r hr => ?_⟩
      · simp only [World.cell?] at q3
        rcases Nat.lt_or_ge β w.heap.size with hb2 | hb2
        · exact hb2
        · rw [Array.getElem?_eq_none hb2] at q3; cases q3
      · obtain ⟨csi, p1, p2⟩ := hl2 i r hr
        subst p1
        obtain ⟨r0, r1, r2⟩ := cells3 p2
        rw [hadd] at r0 r1 r2
        rw [show (⟨β, off + i * 3, none⟩ : Addr).add 1 = ⟨β, off + i * 3 + 1, none⟩ by unfold Addr.add; simp] at r1
        rw [show (⟨β, off + i * 3, none⟩ : Addr).add 2 = ⟨β, off + i * 3 + 2, none⟩ by unfold Addr.add; simp] at r2
        refine ⟨r.cs, rfl, rfl, fun q u hq => ?_⟩
        match q, hq with
        | 0, hq => cases hq; exact r0
        | 1, hq => cases hq; exact r1
        | 2, hq => cases hq; exact r2
section
variable {H : Type} {enc : TypeId × Value → H} {W : World} {base b0 : Nat} {spare : Nat → Bool} {held : Bool} {r : Reach} {v : Value} {d : DataW H} {p : List MemPlace}
theorem wf64 {n : Int} (h : (Lit.int .i64 n).wf = true) : In64 n := by
  have := bounds_i64 h
  unfold In64
  omega
theorem open_int (hv : Value.okWide Try.prog W r b0 3 v) (h : DataW.Trod enc Try.prog W base spare held 3 v d p) : ∃ n : Int, v = .int .i64 n ∧ In64 n := by
  obtain ⟨m, hm⟩ := h
  obtain ⟨v', rfl⟩ : ∃ n, v = .int .i64 n := Go.WideShapes.okWide_int Try.underlying3 hv
  obtain ⟨n, e, _, wf⟩ := DataW.trod_int Try.underlying3 hm
  simp [Value.cells] at e
  subst e
  exact ⟨_, rfl, wf64 wf⟩
theorem open_u8 {t : TypeId} (ht : Try.prog.underlying t = some (.int .u8)) (hv : Value.okWide Try.prog W r b0 t v) (h : DataW.Trod enc Try.prog W base spare held t v d p) : ∃ n : Int, v = .int .u8 n ∧ 0 ≤ n ∧ n ≤ 255 := by
  obtain ⟨m, hm⟩ := h
  obtain ⟨v', rfl⟩ : ∃ n, v = .int .u8 n := Go.WideShapes.okWide_int ht hv
  obtain ⟨n, e, _, wf⟩ := DataW.trod_int ht hm
  simp [Value.cells] at e
  subst e
  exact ⟨_, rfl, bounds_u8 wf⟩
end
end Go.J

namespace Go.J
set_option linter.unusedSimpArgs false
set_option linter.unusedVariables false
open Go.RowKit Go.Proofs Go.ChangeShapes
set_option maxRecDepth 8000
/-! ## arguments: seas, patches, picks -/
structure Picks where
  px : Int
  py : Int
  cx : Int
  cy : Int
  wx : Int
  wy : Int
  down : Int
  cross : Int
  way : Int
  ux : Bool
  uy : Bool
def Picks.cs (x : Picks) : List Value := [.int .u16 x.px, .int .u16 x.py, .int .u16 x.cx, .int .u16 x.cy, .int .u16 x.wx, .int .u16 x.wy, .int .u16 x.down, .int .u16 x.cross, .int .u16 x.way, .bool x.ux, .bool x.uy]
def Picks.ev (x : Picks) : Value := .agg ⟨x.cs⟩
def u16 (n : Int) : Prop := 0 ≤ n ∧ n ≤ 65535
def Picks.ok (x : Picks) : Prop := (u16 x.px ∧ u16 x.py) ∧ (u16 x.cx ∧ u16 x.cy) ∧ (u16 x.wx ∧ u16 x.wy) ∧ u16 x.down ∧ u16 x.cross ∧ u16 x.way

theorem mapM_get {α β : Type} {f : α → Option β} : ∀ {l : List α} {r : List β}, l.mapM f = some r → r.length = l.length ∧ ∀ (i : Nat) a u, l[i]? = some a → r[i]? = some u → f a = some u := by
  intro l
  induction l with
  | nil => intro r h; simp only [List.mapM_nil] at h; cases h; exact ⟨rfl, fun i a u h => by simp at h⟩
  | cons x l ih =>
    intro r h
    simp only [List.mapM_cons] at h
    cases hx : f x with
    | none => rw [hx] at h; cases h
    | some y =>
      cases hl : l.mapM f with
      | none => rw [hx, hl] at h; cases h
      | some s =>
        rw [hx, hl] at h
        have h' : some (y :: s) = some r := h
        cases h'
        obtain ⟨h1, h2⟩ := ih hl
        refine ⟨by simp [h1], fun i a u ha hu => ?_⟩
        cases i with
        | zero => simp at ha hu; subst ha hu; exact hx
        | succ i => exact h2 i a u (by simpa using ha) (by simpa using hu)
theorem cells_get {w : World} {base n : Nat} {A : Addr} {l : List Value} (h : w.cells? base A n = some l) : l.length = n ∧ ∀ i u, l[i]? = some u → w.cell? (A.add i) = some u := by
  unfold World.cells? at h
  split at h
  · obtain ⟨h1, h2⟩ := mapM_get h
    rw [List.length_range] at h1
    refine ⟨h1, fun i u hu => ?_⟩
    have hi : i < n := by have := (List.getElem?_eq_some_iff.1 hu).1; omega
    exact h2 i i u (List.getElem?_range hi) hu
  · cases h
section
variable {H : Type} {enc : TypeId × Value → H} {w : World} {base : Nat} {spare : Nat → Bool} {held : Bool}
theorem trod_field {t : TypeId} {fs : Array Field} {fuel : Nat} {cs : List Value} {x : DataW H × List MemPlace} (ht : Try.prog.underlying t = some (.struct fs)) (h : DataW.trod enc Try.prog w base spare held fuel t cs = some x) (i : Nat) {f : Field} (hi' : fs.toList[i]? = some f) :
    ∃ y n, DataW.trod enc Try.prog w base spare held n f.type ((cs.drop f.offset).take (Try.prog.cellsOf f.type)) = some y := by
  have hi : fs[i]? = some f := by simpa using hi'
  obtain ⟨xs, n, _, _, _, hlen, hf⟩ := DataW.trod_struct ht h
  have h1 := hf i f hi
  have hlt : i < xs.length := by rw [hlen]; exact (Array.getElem?_eq_some_iff.1 hi).1
  rw [List.getElem?_eq_getElem hlt] at h1
  exact ⟨_, _, h1⟩
theorem trod_len {t : TypeId} {fs : Array Field} {fuel : Nat} {cs : List Value} {x : DataW H × List MemPlace} (ht : Try.prog.underlying t = some (.struct fs)) (h : DataW.trod enc Try.prog w base spare held fuel t cs = some x) : cs.length = Try.prog.cellsOf t := by
  obtain ⟨xs, n, _, _, hl, _, _⟩ := DataW.trod_struct ht h
  exact hl
theorem trod_elem {t e : TypeId} {n fuel : Nat} {cs : List Value} {x : DataW H × List MemPlace} (ht : Try.prog.underlying t = some (.array n e)) (h : DataW.trod enc Try.prog w base spare held fuel t cs = some x) (i : Nat) (hi : i < n) :
    ∃ y m, DataW.trod enc Try.prog w base spare held m e ((cs.drop (i * Try.prog.cellsOf e)).take (Try.prog.cellsOf e)) = some y := by
  obtain ⟨xs, m, _, _, _, hlen, hf⟩ := DataW.trod_array ht h
  have h1 := hf i hi
  have hlt : i < xs.length := by omega
  rw [List.getElem?_eq_getElem hlt] at h1
  exact ⟨_, _, h1⟩
theorem trod_i64 {fuel : Nat} {v : Value} {x : DataW H × List MemPlace} (h : DataW.trod enc Try.prog w base spare held fuel 3 [v] = some x) : ∃ n, v = .int .i64 n ∧ In64 n := by
  obtain ⟨n, e, _, wf⟩ := DataW.trod_int Try.underlying3 h
  simp at e
  exact ⟨n, e, wf64 wf⟩
theorem u16_bd {n : Int} (h : (Lit.int .u16 n).wf = true) : u16 n := by
  simp [Lit.wf, IntKind.min, IntKind.max, IntKind.signed, IntKind.bits] at h
  unfold u16
  omega
theorem trod_u16 {fuel : Nat} {v : Value} {x : DataW H × List MemPlace} (h : DataW.trod enc Try.prog w base spare held fuel 153 [v] = some x) : ∃ n, v = .int .u16 n ∧ u16 n := by
  obtain ⟨n, e, _, wf⟩ := DataW.trod_int Try.underlying153 h
  simp at e
  exact ⟨n, e, u16_bd wf⟩
theorem trod_b {fuel : Nat} {v : Value} {x : DataW H × List MemPlace} (h : DataW.trod enc Try.prog w base spare held fuel 4 [v] = some x) : ∃ b, v = .bool b := by
  obtain ⟨b, e, _⟩ := DataW.trod_bool Try.underlying4 h
  simp at e
  exact ⟨b, e⟩
theorem co3 : Try.prog.cellsOf 3 = 1 := by kernel_rfl
theorem co4 : Try.prog.cellsOf 4 = 1 := by kernel_rfl
theorem co23 : Try.prog.cellsOf 23 = 2 := by kernel_rfl
theorem co50 : Try.prog.cellsOf 50 = 1 := by kernel_rfl
theorem co52 : Try.prog.cellsOf 52 = 4 := by kernel_rfl
theorem co82 : Try.prog.cellsOf 82 = 1 := by kernel_rfl
theorem co84 : Try.prog.cellsOf 84 = 2 := by kernel_rfl
theorem co86 : Try.prog.cellsOf 86 = 5 := by kernel_rfl
theorem co88 : Try.prog.cellsOf 88 = 11 := by kernel_rfl
theorem co90 : Try.prog.cellsOf 90 = 5 := by kernel_rfl
theorem co153 : Try.prog.cellsOf 153 = 1 := by kernel_rfl
theorem co154 : Try.prog.cellsOf 154 = 2 := by kernel_rfl
theorem co155 : Try.prog.cellsOf 155 = 2 := by kernel_rfl
theorem co157 : Try.prog.cellsOf 157 = 11 := by kernel_rfl
theorem co218 : Try.prog.cellsOf 218 = 7 := by kernel_rfl
/-- two ints -/
theorem trod_spot {fuel : Nat} {u v : Value} {x : DataW H × List MemPlace} (h : DataW.trod enc Try.prog w base spare held fuel 23 [u, v] = some x) : ∃ s : Spot, u = .int .i64 s.X ∧ v = .int .i64 s.Y := by
  obtain ⟨_, _, g0⟩ := trod_field Try.underlying23 h 0 rfl
  obtain ⟨_, _, g1⟩ := trod_field Try.underlying23 h 1 rfl
  simp only [co3] at g0 g1
  obtain ⟨a, e0, _⟩ := trod_i64 (v := u) g0
  obtain ⟨b, e1, _⟩ := trod_i64 (v := v) g1
  exact ⟨⟨a, b⟩, e0, e1⟩
theorem open_flow {fuel : Nat} {cs : List Value} {x : DataW H × List MemPlace} (h : DataW.trod enc Try.prog w base spare held fuel 218 cs = some x) : ∃ f : Flow, cs = f.cs ∧ SlR w f.wv f.wh := by
  have hl := trod_len Try.underlying218 h
  rw [co218] at hl
  match cs, hl with
  | [c0, c1, c2, c3, c4, c5, c6], _ =>
    obtain ⟨_, _, g0⟩ := trod_field Try.underlying218 h 0 rfl
    obtain ⟨_, _, g1⟩ := trod_field Try.underlying218 h 1 rfl
    obtain ⟨_, _, g2⟩ := trod_field Try.underlying218 h 2 rfl
    obtain ⟨_, _, g3⟩ := trod_field Try.underlying218 h 3 rfl
    obtain ⟨_, _, g4⟩ := trod_field Try.underlying218 h 4 rfl
    simp only [co3, co50, co23] at g0 g1 g2 g3 g4
    obtain ⟨n0, rfl, _⟩ := trod_i64 (v := c0) g0
    obtain ⟨n1, rfl, _⟩ := trod_i64 (v := c1) g1
    obtain ⟨rs, hs, _⟩ := open_runs (v := c2) g2
    obtain ⟨s0, rfl, rfl⟩ := trod_spot (u := c3) (v := c4) g3
    obtain ⟨s1, rfl, rfl⟩ := trod_spot (u := c5) (v := c6) g4
    exact ⟨⟨n0, n1, c2, rs, s0, s1⟩, rfl, hs⟩
theorem add_none {β off k : Nat} : (⟨β, off, none⟩ : Addr).add k = ⟨β, off + k, none⟩ := by unfold Addr.add; split <;> simp_all
theorem open_flows {fuel : Nat} {v : Value} {x : DataW H × List MemPlace} (h : DataW.trod enc Try.prog w base spare held fuel 82 [v] = some x) : ∃ fl : List Flow, FlowsIs w v fl := by
  rcases Go.Deep.open_slice Try.underlying82 h with ⟨h1, _⟩ | ⟨a, len, cap, m, n, D, Pl, h1, hb, hl, hm, hmm, _, hx⟩
  · cases h1
    exact ⟨[], ⟨by simp, none, 0, rfl, .inl rfl⟩, by simp⟩
  · cases h1
    rw [co218] at hx
    have hlm : len ≤ m := by rw [hmm]; split <;> omega
    have hget : ∀ i, i < len → ∃ f : Flow, (∃ cs', cs' = Flow.cs f ∧ w.cells? base (a.add (i * 7)) 7 = some cs') ∧ SlR w f.wv f.wh := by
      intro i hi
      obtain ⟨cs', h2, h3⟩ := hx i (by omega)
      obtain ⟨f, rfl, hf⟩ := open_flow h3
      exact ⟨f, ⟨_, rfl, h2⟩, hf⟩
    obtain ⟨fl, hl1, hl2⟩ := list_of len hget
    refine ⟨fl, ⟨by rw [hl1]; simp only [maxLen] at hm; omega, some a, cap, by rw [hl1], ?_⟩, fun f hf => ?_⟩
    · by_cases h0 : fl = []
      · exact .inl h0
      · right
        have hpos : 0 < fl.length := List.length_pos_iff.2 h0
        obtain ⟨⟨cs0, q1, q2⟩, _⟩ := hl2 0 fl[0] (by simp [hpos])
        subst q1
        have q3 := (cells_get q2).2 0 _ rfl
        have ha : (a.add (0 * 7)).add 0 = a := rfl
        rw [ha] at q3
        obtain ⟨β, off, spot⟩ := a
        have hsp : spot = none := by
          cases spot with
          | none => rfl
          | some z => simp only [World.cell?] at q3; split at q3 <;> simp at q3
        subst hsp
        refine ⟨β, off, rfl, ?_, fun i f hr => ?_⟩
        · simp only [World.cell?] at q3
          rcases Nat.lt_or_ge β w.heap.size with hb2 | hb2
          · exact hb2
          · rw [Array.getElem?_eq_none hb2] at q3; cases q3
        · obtain ⟨⟨csi, p1, p2⟩, _⟩ := hl2 i f hr
          subst p1
          refine ⟨f.cs, rfl, rfl, fun q u hq => ?_⟩
          have := (cells_get p2).2 q u hq
          rw [add_none, add_none] at this
          exact this
    · obtain ⟨i, hi⟩ := List.mem_iff_getElem?.1 hf
      exact (hl2 i f hi).2
theorem open_gridT {fuel : Nat} {c0 c1 c2 c3 : Value} {x : DataW H × List MemPlace} (h : DataW.trod enc Try.prog w base spare held fuel 52 [c0, c1, c2, c3] = some x) : ∃ g : Grid, c0 = .int .i64 g.W ∧ c1 = .int .i64 g.H ∧ c2 = .int .i64 g.S ∧ SlR w c3 g.land ∧ capOK c3 ∧ In64 g.W ∧ In64 g.H ∧ In64 g.S := by
  obtain ⟨_, _, g0⟩ := trod_field Try.underlying52 h 0 rfl
  obtain ⟨_, _, g1⟩ := trod_field Try.underlying52 h 1 rfl
  obtain ⟨_, _, g2⟩ := trod_field Try.underlying52 h 2 rfl
  obtain ⟨_, _, g3⟩ := trod_field Try.underlying52 h 3 rfl
  simp only [co3, co50] at g0 g1 g2 g3
  obtain ⟨n0, e0, i0⟩ := trod_i64 (v := c0) g0
  obtain ⟨n1, e1, i1⟩ := trod_i64 (v := c1) g1
  obtain ⟨n2, e2, i2⟩ := trod_i64 (v := c2) g2
  obtain ⟨rs, hs, hc⟩ := open_runs (v := c3) g3
  exact ⟨⟨n0, n1, n2, rs⟩, e0, e1, e2, hs, hc, i0, i1, i2⟩
end
section
variable {H : Type} {enc : TypeId × Value → H} {W : World} {base b0 : Nat} {spare : Nat → Bool} {held : Bool} {r : Reach} {v : Value} {d : DataW H} {p : List MemPlace}
theorem open_sea (hv : Value.okWide Try.prog W r b0 88 v) (h : DataW.Trod enc Try.prog W base spare held 88 v d p) :
    ∃ (g : Grid) (lv cv wv : Value) (cu wi : List Flow) (dr : Drifter), v = seaEv g lv cv wv dr ∧ SlR W lv g.land ∧ capOK lv ∧ FlowsIs W cv cu ∧ FlowsIs W wv wi ∧ (In64 g.W ∧ In64 g.H ∧ In64 g.S) ∧ In64 dr.dl ∧ In64 dr.dh ∧ In64 dr.cl ∧ In64 dr.ch := by
  obtain ⟨⟨l⟩, rfl, hsz⟩ := Go.WideShapes.okWide_struct Try.underlying88 hv
  rw [co88] at hsz
  obtain ⟨fuel, hf⟩ := h
  match l, hsz with
  | [c0, c1, c2, c3, c4, c5, c6, c7, c8, c9, c10], _ =>
    simp only [Value.cells] at hf
    obtain ⟨_, _, g0⟩ := trod_field Try.underlying88 hf 0 rfl
    obtain ⟨_, _, g1⟩ := trod_field Try.underlying88 hf 1 rfl
    obtain ⟨_, _, g2⟩ := trod_field Try.underlying88 hf 2 rfl
    simp only [co52, co84, co86] at g0 g1 g2
    obtain ⟨g, rfl, rfl, rfl, hs, hc, hi⟩ := open_gridT (c0 := c0) (c1 := c1) (c2 := c2) (c3 := c3) g0
    obtain ⟨_, _, k0⟩ := trod_field Try.underlying84 g1 0 rfl
    obtain ⟨_, _, k1⟩ := trod_field Try.underlying84 g1 1 rfl
    obtain ⟨_, _, q0⟩ := trod_field Try.underlying86 g2 0 rfl
    obtain ⟨_, _, q1⟩ := trod_field Try.underlying86 g2 1 rfl
    obtain ⟨_, _, q2⟩ := trod_field Try.underlying86 g2 2 rfl
    obtain ⟨_, _, q3⟩ := trod_field Try.underlying86 g2 3 rfl
    obtain ⟨_, _, q4⟩ := trod_field Try.underlying86 g2 4 rfl
    simp only [co82, co3, co4] at k0 k1 q0 q1 q2 q3 q4
    obtain ⟨cu, hcu⟩ := open_flows (v := c4) k0
    obtain ⟨wi, hwi⟩ := open_flows (v := c5) k1
    obtain ⟨n0, rfl, i0⟩ := trod_i64 (v := c6) q0
    obtain ⟨n1, rfl, i1⟩ := trod_i64 (v := c7) q1
    obtain ⟨n2, rfl, i2⟩ := trod_i64 (v := c8) q2
    obtain ⟨n3, rfl, i3⟩ := trod_i64 (v := c9) q3
    obtain ⟨b, rfl⟩ := trod_b (v := c10) q4
    exact ⟨g, c3, c4, c5, cu, wi, ⟨n0, n1, n2, n3, b⟩, rfl, hs, hc, hcu, hwi, hi, i0, i1, i2, i3⟩
theorem open_patch (hv : Value.okWide Try.prog W r b0 90 v) (h : DataW.Trod enc Try.prog W base spare held 90 v d p) :
    ∃ q : Patch, v = q.ev ∧ q.is W ∧ (capOK q.lv ∧ capOK q.rv ∧ capOK q.bv) ∧ In64 q.time := by
  obtain ⟨⟨l⟩, rfl, hsz⟩ := Go.WideShapes.okWide_struct Try.underlying90 hv
  rw [co90] at hsz
  obtain ⟨fuel, hf⟩ := h
  match l, hsz with
  | [c0, c1, c2, c3, c4], _ =>
    simp only [Value.cells] at hf
    obtain ⟨_, _, g0⟩ := trod_field Try.underlying90 hf 0 rfl
    obtain ⟨_, _, g1⟩ := trod_field Try.underlying90 hf 1 rfl
    obtain ⟨_, _, g2⟩ := trod_field Try.underlying90 hf 2 rfl
    obtain ⟨_, _, g3⟩ := trod_field Try.underlying90 hf 3 rfl
    obtain ⟨_, _, g4⟩ := trod_field Try.underlying90 hf 4 rfl
    simp only [co3, co50, co4] at g0 g1 g2 g3 g4
    obtain ⟨n0, rfl, i0⟩ := trod_i64 (v := c0) g0
    obtain ⟨r1, s1, k1⟩ := open_runs (v := c1) g1
    obtain ⟨r2, s2, k2⟩ := open_runs (v := c2) g2
    obtain ⟨r3, s3, k3⟩ := open_runs (v := c3) g3
    obtain ⟨b, rfl⟩ := trod_b (v := c4) g4
    exact ⟨⟨n0, c1, r1, c2, r2, c3, r3, b⟩, rfl, ⟨s1, s2, s3⟩, ⟨k1, k2, k3⟩, i0⟩
theorem open_picks (hv : Value.okWide Try.prog W r b0 157 v) (h : DataW.Trod enc Try.prog W base spare held 157 v d p) : ∃ x : Picks, v = x.ev ∧ x.ok := by
  obtain ⟨⟨l⟩, rfl, hsz⟩ := Go.WideShapes.okWide_struct Try.underlying157 hv
  rw [co157] at hsz
  obtain ⟨fuel, hf⟩ := h
  match l, hsz with
  | [c0, c1, c2, c3, c4, c5, c6, c7, c8, c9, c10], _ =>
    simp only [Value.cells] at hf
    obtain ⟨_, _, g0⟩ := trod_field Try.underlying157 hf 0 rfl
    obtain ⟨_, _, g1⟩ := trod_field Try.underlying157 hf 1 rfl
    obtain ⟨_, _, g2⟩ := trod_field Try.underlying157 hf 2 rfl
    obtain ⟨_, _, g3⟩ := trod_field Try.underlying157 hf 3 rfl
    obtain ⟨_, _, g4⟩ := trod_field Try.underlying157 hf 4 rfl
    obtain ⟨_, _, g5⟩ := trod_field Try.underlying157 hf 5 rfl
    obtain ⟨_, _, g6⟩ := trod_field Try.underlying157 hf 6 rfl
    simp only [co154, co153, co155] at g0 g1 g2 g3 g4 g5 g6
    obtain ⟨_, _, a0⟩ := trod_elem Try.underlying154 g0 0 (by omega)
    obtain ⟨_, _, a1⟩ := trod_elem Try.underlying154 g0 1 (by omega)
    obtain ⟨_, _, a2⟩ := trod_elem Try.underlying154 g1 0 (by omega)
    obtain ⟨_, _, a3⟩ := trod_elem Try.underlying154 g1 1 (by omega)
    obtain ⟨_, _, a4⟩ := trod_elem Try.underlying154 g2 0 (by omega)
    obtain ⟨_, _, a5⟩ := trod_elem Try.underlying154 g2 1 (by omega)
    obtain ⟨_, _, a6⟩ := trod_elem Try.underlying155 g6 0 (by omega)
    obtain ⟨_, _, a7⟩ := trod_elem Try.underlying155 g6 1 (by omega)
    simp only [co153, co4] at a0 a1 a2 a3 a4 a5 a6 a7
    obtain ⟨n0, rfl, i0⟩ := trod_u16 (v := c0) a0
    obtain ⟨n1, rfl, i1⟩ := trod_u16 (v := c1) a1
    obtain ⟨n2, rfl, i2⟩ := trod_u16 (v := c2) a2
    obtain ⟨n3, rfl, i3⟩ := trod_u16 (v := c3) a3
    obtain ⟨n4, rfl, i4⟩ := trod_u16 (v := c4) a4
    obtain ⟨n5, rfl, i5⟩ := trod_u16 (v := c5) a5
    obtain ⟨n6, rfl, i6⟩ := trod_u16 (v := c6) g3
    obtain ⟨n7, rfl, i7⟩ := trod_u16 (v := c7) g4
    obtain ⟨n8, rfl, i8⟩ := trod_u16 (v := c8) g5
    obtain ⟨u0, rfl⟩ := trod_b (v := c9) a6
    obtain ⟨u1, rfl⟩ := trod_b (v := c10) a7
    exact ⟨⟨n0, n1, n2, n3, n4, n5, n6, n7, n8, u0, u1⟩, rfl, ⟨i0, i1⟩, ⟨i2, i3⟩, ⟨i4, i5⟩, i6, i7, i8⟩
theorem open_u16 {t : TypeId} (ht : Try.prog.underlying t = some (.int .u16)) (hv : Value.okWide Try.prog W r b0 t v) (h : DataW.Trod enc Try.prog W base spare held t v d p) : ∃ n : Int, v = .int .u16 n ∧ u16 n := by
  obtain ⟨m, hm⟩ := h
  obtain ⟨v', rfl⟩ : ∃ n, v = .int .u16 n := Go.WideShapes.okWide_int ht hv
  obtain ⟨n, e, _, wf⟩ := DataW.trod_int ht hm
  simp [Value.cells] at e
  subst e
  exact ⟨_, rfl, u16_bd wf⟩
end
end Go.J

namespace Go.J
open Go.RowKit Go.Proofs
set_option maxRecDepth 8000
set_option maxHeartbeats 1600000
set_option linter.unusedSimpArgs false
set_option linter.unusedVariables false
/-! drift: how far a drifter goes -/
theorem of104_v (lo hi part x : Int) (w : World) (hp : u16' part) (h0 : -1000000000000 ≤ lo ∧ lo ≤ 1000000000000) (h1 : 0 ≤ hi - lo ∧ hi - lo ≤ 10000000000) (hx : x = ofI lo hi part) : Pur Try.prog 104 #[.int .i64 lo, .int .i64 hi, .int .u16 part] w (.int .i64 x) := by
  rw [hx]; exact of104_c lo hi part w hp h0 h1
theorem gone101_c (g : Grid) (lv cv wv : Value) (cu wi : List Flow) (d : Drifter) (c : Cell) (side time sec : Int) (x : Picks) (w : World) (hs : seaB g cu wi d sec = true) (hx : x.ok) (hc : FlowsIs w cv cu) (hw : FlowsIs w wv wi) (hl : SlR w lv g.land) :
    Pur Try.prog 101 #[seaEv g lv cv wv d, c.ev, .int .i64 side, .int .i64 time, .int .i64 sec, x.ev] w (.tuple #[.agg ⟨[.int .i64 (goneR cu wi d c side time sec x.cx x.cy x.wx x.wy x.down x.cross x.ux x.uy).1.X, .int .i64 (goneR cu wi d c side time sec x.cx x.cy x.wx x.wy x.down x.cross x.ux x.uy).1.Y]⟩, .bool (goneR cu wi d c side time sec x.cx x.cy x.wx x.wy x.down x.cross x.ux x.uy).2]) := by
  obtain ⟨la, lc, rfl⟩ := hl.len
  obtain ⟨ca, cc, rfl⟩ := hc.1.len
  obtain ⟨wa, wc, rfl⟩ := hw.1.len
  unfold seaB flowsB at hs
  simp only [Bool.and_eq_true, decide_eq_true_eq] at hs
  obtain ⟨⟨⟨⟨hgok, hf1⟩, hf2⟩, hdo⟩, hsec⟩ := hs
  unfold Drifter.ok at hdo
  simp only [Bool.and_eq_true, decide_eq_true_eq] at hdo
  obtain ⟨t1, o1⟩ := flow_facts hf1
  obtain ⟨t2, o2⟩ := flow_facts hf2
  have l0 : Bnd.le ⟨0, 0⟩ := Int.le_refl _
  have z0' : Bnd.tame ⟨0, 0⟩ 100000 := by unfold Bnd.tame; simp
  have lA := atR_le (c := c) (time := time) cu (⟨0, 0⟩, ⟨0, 0⟩, false) o1 l0 l0
  have lB := atR_le (c := c) (time := time) wi (⟨0, 0⟩, ⟨0, 0⟩, false) o2 l0 l0
  have tA := atR_tame (c := c) (time := time) cu (⟨0, 0⟩, ⟨0, 0⟩, false) o1 z0' z0'
  have tB := atR_tame (c := c) (time := time) wi (⟨0, 0⟩, ⟨0, 0⟩, false) o2 z0' z0'
  change (atR cu c time).1.le ∧ (atR cu c time).2.1.le at lA
  change (atR wi c time).1.le ∧ (atR wi c time).2.1.le at lB
  change (atR cu c time).1.tame 100000 ∧ (atR cu c time).2.1.tame 100000 at tA
  change (atR wi c time).1.tame 100000 ∧ (atR wi c time).2.1.tame 100000 at tB
  have hfc : ∀ w', Below w.heap.size w w' → Pur Try.prog 193 #[.slice ca cu.length cc, c.ev, .int .i64 time] w' (.tuple #[.agg ⟨[.int .i64 (atR cu c time).1.low, .int .i64 (atR cu c time).2.1.low]⟩, .agg ⟨[.int .i64 (atR cu c time).1.high, .int .i64 (atR cu c time).2.1.high]⟩, .bool (atR cu c time).2.2]) := fun w' hB => flow193_c _ cu c time w' (hc.grow hB)
  have hfw : ∀ w', Below w.heap.size w w' → Pur Try.prog 193 #[.slice wa wi.length wc, c.ev, .int .i64 time] w' (.tuple #[.agg ⟨[.int .i64 (atR wi c time).1.low, .int .i64 (atR wi c time).2.1.low]⟩, .agg ⟨[.int .i64 (atR wi c time).1.high, .int .i64 (atR wi c time).2.1.high]⟩, .bool (atR wi c time).2.2]) := fun w' hB => flow193_c _ wi c time w' (hw.grow hB)
  obtain ⟨R, hR⟩ : ∃ R, R = goneR cu wi d c side time sec x.cx x.cy x.wx x.wy x.down x.cross x.ux x.uy := ⟨_, rfl⟩
  rw [← hR]
  unfold goneR at hR
  generalize atR cu c time = A at *
  generalize atR wi c time = B at *
  unfold Bnd.le at lA lB
  unfold Bnd.tame at tA tB
  obtain ⟨px, py, cx, cy, wx, wy, down, cross, way, ux, uy⟩ := x
  obtain ⟨⟨x1, x2⟩, ⟨x3, x4⟩, ⟨x5, x6⟩, x7, x8, x9⟩ := hx
  simp only at hR x1 x2 x3 x4 x5 x6 x7 x8 x9
  obtain ⟨ax, hax⟩ : ∃ a, a = ofI A.1.low A.1.high cx := ⟨_, rfl⟩
  obtain ⟨ay, hay⟩ : ∃ a, a = ofI A.2.1.low A.2.1.high cy := ⟨_, rfl⟩
  obtain ⟨bx, hbx⟩ : ∃ a, a = ofI B.1.low B.1.high wx := ⟨_, rfl⟩
  obtain ⟨bv, hbv⟩ : ∃ a, a = ofI B.2.1.low B.2.1.high wy := ⟨_, rfl⟩
  obtain ⟨dn, hdn⟩ : ∃ a, a = ofI d.dl d.dh down := ⟨_, rfl⟩
  obtain ⟨cr, hcr⟩ : ∃ a, a = ofI d.cl d.ch cross := ⟨_, rfl⟩
  have k1 := ofI_bd' lA.1 x3
  have k2 := ofI_bd' lA.2 x4
  have k3 := ofI_bd' lB.1 x5
  have k4 := ofI_bd' lB.2 x6
  have k5 := ofI_bd' (low := d.dl) (high := d.dh) (by omega) x7
  have k6 := ofI_bd' (low := d.cl) (high := d.ch) (by omega) x8
  rw [← hax] at k1
  rw [← hay] at k2
  rw [← hbx] at k3
  rw [← hbv] at k4
  rw [← hdn] at k5
  rw [← hcr] at k6
  unfold goneX goneY at hR
  rw [← hax, ← hay, ← hbx, ← hbv, ← hdn, ← hcr] at hR
  refine pur_J (args := [.agg ⟨[.int .i64 g.W, .int .i64 g.H, .int .i64 g.S, .slice la g.land.length lc, .slice ca cu.length cc, .slice wa wi.length wc, .int .i64 d.dl, .int .i64 d.dh, .int .i64 d.cl, .int .i64 d.ch, .bool d.jibes]⟩, c.ev, .int .i64 side, .int .i64 time, .int .i64 sec, .agg ⟨[.int .u16 px, .int .u16 py, .int .u16 cx, .int .u16 cy, .int .u16 wx, .int .u16 wy, .int .u16 down, .int .u16 cross, .int .u16 way, .bool ux, .bool uy]⟩]) Try.func101 rfl Try.ntmps101 rfl ?_
  have H := Own.start w
  ((repeat refine JC.seq ?_); refine JC.region ?_)
  refine JL.box H rfl rfl rfl ?_
  intro b6 w1 H
  refine JL.box H rfl rfl rfl ?_
  intro b7 w2 H
  refine JL.box H rfl rfl rfl ?_
  intro b11 w3 H
  refine JL.alloc H z23 rfl ?_
  intro b12 w4 H
  refine JL.pure rfl rfl ?_
  refine JL.nil ?_
  ((repeat refine Ex.normal_block ?_); refine Ex.next ?_)
  ((repeat refine JC.seq ?_); refine JC.region ?_)
  refine JL.fieldAddr rfl Try.underlying88 rfl sh84 rfl ?_
  refine JL.fieldAddr rfl Try.underlying84 rfl sh82 rfl ?_
  refine JL.loadB 3 H rfl sh82 rfl rfl rfl ?_
  refine JL.loadB 2 H rfl sh62 rfl rfl rfl ?_
  refine JL.pure rfl rfl ?_
  refine JL.callP H fb193 rfl rfl (hfc _ H.below) ?_
  intro w5 H _
  refine JL.pure rfl rfl ?_
  refine JL.pure rfl rfl ?_
  refine JL.pure rfl rfl ?_
  refine JL.pure rfl rfl ?_
  refine JL.alloc H z23 rfl ?_
  intro b14 w6 H
  refine JL.alloc H z23 rfl ?_
  intro b15 w7 H
  refine JL.storeB 1 H rfl rfl sh23 rfl rfl rfl rfl rfl ?_
  intro w8 H
  refine JL.storeB 0 H rfl rfl sh23 rfl rfl rfl rfl rfl ?_
  intro w9 H
  refine JL.pure rfl rfl ?_
  refine JL.nil ?_
  ((repeat refine Ex.normal_block ?_); refine Ex.next ?_)
  ((repeat refine JC.seq ?_); refine JC.region ?_)
  refine JL.fieldAddr rfl Try.underlying88 rfl sh84 rfl ?_
  refine JL.fieldAddr rfl Try.underlying84 rfl sh82 rfl ?_
  refine JL.loadB 5 H rfl sh82 rfl rfl rfl ?_
  refine JL.loadB 4 H rfl sh62 rfl rfl rfl ?_
  refine JL.pure rfl rfl ?_
  refine JL.callP H fb193 rfl rfl (hfw _ H.below) ?_
  intro w10 H _
  refine JL.pure rfl rfl ?_
  refine JL.pure rfl rfl ?_
  refine JL.pure rfl rfl ?_
  refine JL.pure rfl rfl ?_
  refine JL.alloc H z23 rfl ?_
  intro b17 w11 H
  refine JL.alloc H z23 rfl ?_
  intro b18 w12 H
  refine JL.storeB 1 H rfl rfl sh23 rfl rfl rfl rfl rfl ?_
  intro w13 H
  refine JL.storeB 0 H rfl rfl sh23 rfl rfl rfl rfl rfl ?_
  intro w14 H
  refine JL.pure rfl rfl ?_
  refine JL.nil ?_
  ((repeat refine Ex.normal_block ?_); refine Ex.next ?_)
  ((repeat refine JC.seq ?_); refine JC.region ?_)
  refine JL.pure rfl rfl ?_
  refine JL.pure rfl rfl ?_
  refine JL.pure rfl rfl ?_
  refine JL.cases 47 rfl ?_ ?_
  · intro h47
    (try simp only [Bool.not_eq_true', Bool.not_eq_false', decide_eq_true_eq, decide_eq_false_iff_not] at h47)
    refine JL.pass rfl rfl rfl rfl ?_
    refine JL.pass rfl rfl rfl rfl ?_
    refine JL.pure rfl rfl ?_
    refine JL.nil ?_
    ((repeat refine Ex.normal_block ?_); refine Ex.next ?_)
    ((repeat refine JC.seq ?_); refine JC.cond rfl (fun _ => ?_) (fun h => by cases h))
    ((repeat refine JC.seq ?_); refine JC.region ?_)
    refine JL.build s23 rfl rfl ?_
    refine JL.storeB 4 H rfl rfl sh23 rfl rfl rfl rfl rfl ?_
    intro w15 H
    refine JL.pure rfl rfl ?_
    refine JL.nil ?_
    ((repeat refine Ex.normal_block ?_); refine Ex.next ?_)
    ((repeat refine JC.seq ?_); refine JC.ret ?_)
    (repeat (first | refine Ex.ret_then ?_ | refine Ex.ret_block ?_))
    refine Ex.ret2 rfl (.cell rfl sh23 (LdAt.of_block (H.get (i := 4) rfl).2 rfl)) (.tmp rfl) ⟨?_, H.below⟩
    have : (A.2.2 && B.2.2) = false := by simp_all
    rw [hR, if_neg (by rw [this]; simp)]
  · intro h47
    (try simp only [Bool.not_eq_true', Bool.not_eq_false', decide_eq_true_eq, decide_eq_false_iff_not] at h47)
    refine JL.want rfl rfl ?_
    refine JL.pure rfl rfl ?_
    refine JL.want rfl rfl ?_
    refine JL.pure rfl rfl ?_
    refine JL.pure rfl rfl ?_
    refine JL.nil ?_
    ((repeat refine Ex.normal_block ?_); refine Ex.next ?_)
    ((repeat refine JC.seq ?_); refine JC.cond rfl ?_ ?_)
    · intro h50
      (try simp only [Bool.not_eq_true', Bool.not_eq_false', decide_eq_true_eq, decide_eq_false_iff_not] at h50)
      
      ((repeat refine JC.seq ?_); refine JC.region ?_)
      refine JL.build s23 rfl rfl ?_
      refine JL.storeB 4 H rfl rfl sh23 rfl rfl rfl rfl rfl ?_
      intro w16 H
      refine JL.pure rfl rfl ?_
      refine JL.nil ?_
      ((repeat refine Ex.normal_block ?_); refine Ex.next ?_)
      ((repeat refine JC.seq ?_); refine JC.ret ?_)
      (repeat (first | refine Ex.ret_then ?_ | refine Ex.ret_block ?_))
      refine Ex.ret2 rfl (.cell rfl sh23 (LdAt.of_block (H.get (i := 4) rfl).2 rfl)) (.tmp rfl) ⟨?_, H.below⟩
      have : (A.2.2 && B.2.2) = false := by simp_all
      rw [hR, if_neg (by rw [this]; simp)]
    · intro h50
      (try simp only [Bool.not_eq_true', Bool.not_eq_false', decide_eq_true_eq, decide_eq_false_iff_not] at h50)
      have hb50 : (A.2.2 && B.2.2) = true := by simp_all
      ((repeat refine JC.seq ?_); refine JC.skip ?_)
      ((repeat refine Ex.normal_block ?_); refine Ex.next ?_)
      ((repeat refine JC.seq ?_); refine JC.draw 19 H mixed (by kernel_rfl) rfl ?_)
      refine JD.fieldAddr rfl Try.underlying23 rfl sh3 rfl ?_
      refine JD.loadB 3 rfl sh3 rfl rfl rfl ?_
      refine JD.fieldAddr rfl Try.underlying23 rfl sh3 rfl ?_
      refine JD.loadB 2 rfl sh3 rfl rfl rfl ?_
      refine JD.fieldAddr rfl Try.underlying157 rfl sh154 rfl ?_
      refine JD.indexA 0 rfl rfl Try.underlying154 sh153 rfl (by decide) rfl ?_
      refine JD.loadB 5 rfl sh153 rfl rfl rfl ?_
      refine JD.call fb104 rfl rfl (fun w hw => of104_v _ _ _ _ w x3 (by omega) (by omega) hax) ?_
      refine JD.fieldAddr rfl Try.underlying23 rfl sh3 rfl ?_
      refine JD.loadB 3 rfl sh3 rfl rfl rfl ?_
      refine JD.fieldAddr rfl Try.underlying23 rfl sh3 rfl ?_
      refine JD.loadB 2 rfl sh3 rfl rfl rfl ?_
      refine JD.fieldAddr rfl Try.underlying157 rfl sh154 rfl ?_
      refine JD.indexA 1 rfl rfl Try.underlying154 sh153 rfl (by decide) rfl ?_
      refine JD.loadB 5 rfl sh153 rfl rfl rfl ?_
      refine JD.call fb104 rfl rfl (fun w hw => of104_v _ _ _ _ w x4 (by omega) (by omega) hay) ?_
      refine JD.build s23 rfl rfl ?_
      refine JD.allocS 18 (.tmp 68) z23 rfl rfl ?_
      refine JD.storeF rfl rfl rfl sh23 rfl rfl rfl ?_
      refine JD.nil ?_
      intro w17 v20 H
      obtain ⟨b20, rfl, H⟩ := H.ptr (j := 0) rfl
      show JL _ _ _ _ _ _ _
      refine JL.nil ?_
      ((repeat refine Ex.normal_block ?_); refine Ex.next ?_)
      ((repeat refine JC.seq ?_); refine JC.draw 19 H mixed (by kernel_rfl) rfl ?_)
      refine JD.fieldAddr rfl Try.underlying23 rfl sh3 rfl ?_
      refine JD.loadB 2 rfl sh3 rfl rfl rfl ?_
      refine JD.fieldAddr rfl Try.underlying23 rfl sh3 rfl ?_
      refine JD.loadB 1 rfl sh3 rfl rfl rfl ?_
      refine JD.fieldAddr rfl Try.underlying157 rfl sh154 rfl ?_
      refine JD.indexA 0 rfl rfl Try.underlying154 sh153 rfl (by decide) rfl ?_
      refine JD.loadB 6 rfl sh153 rfl rfl rfl ?_
      refine JD.call fb104 rfl rfl (fun w hw => of104_v _ _ _ _ w x5 (by omega) (by omega) hbx) ?_
      refine JD.fieldAddr rfl Try.underlying23 rfl sh3 rfl ?_
      refine JD.loadB 2 rfl sh3 rfl rfl rfl ?_
      refine JD.fieldAddr rfl Try.underlying23 rfl sh3 rfl ?_
      refine JD.loadB 1 rfl sh3 rfl rfl rfl ?_
      refine JD.fieldAddr rfl Try.underlying157 rfl sh154 rfl ?_
      refine JD.indexA 1 rfl rfl Try.underlying154 sh153 rfl (by decide) rfl ?_
      refine JD.loadB 6 rfl sh153 rfl rfl rfl ?_
      refine JD.call fb104 rfl rfl (fun w hw => of104_v _ _ _ _ w x6 (by omega) (by omega) hbv) ?_
      refine JD.build s23 rfl rfl ?_
      refine JD.allocS 18 (.tmp 85) z23 rfl rfl ?_
      refine JD.storeF rfl rfl rfl sh23 rfl rfl rfl ?_
      refine JD.nil ?_
      intro w18 v21 H
      obtain ⟨b21, rfl, H⟩ := H.ptr (j := 0) rfl
      show JL _ _ _ _ _ _ _
      refine JL.nil ?_
      ((repeat refine Ex.normal_block ?_); refine Ex.next ?_)
      ((repeat refine JC.seq ?_); refine JC.draw 20 H mixed (by kernel_rfl) rfl ?_)
      refine JD.fieldAddr rfl Try.underlying88 rfl sh86 rfl ?_
      refine JD.fieldAddr rfl Try.underlying86 rfl sh3 rfl ?_
      refine JD.loadB 9 rfl sh3 rfl rfl rfl ?_
      refine JD.fieldAddr rfl Try.underlying88 rfl sh86 rfl ?_
      refine JD.fieldAddr rfl Try.underlying86 rfl sh3 rfl ?_
      refine JD.loadB 9 rfl sh3 rfl rfl rfl ?_
      refine JD.fieldAddr rfl Try.underlying157 rfl sh153 rfl ?_
      refine JD.loadB 7 rfl sh153 rfl rfl rfl ?_
      refine JD.call fb104 rfl rfl (fun w hw => of104_v _ _ _ _ w x7 (by omega) (by omega) hdn) ?_
      refine JD.fieldAddr rfl Try.underlying88 rfl sh86 rfl ?_
      refine JD.fieldAddr rfl Try.underlying86 rfl sh3 rfl ?_
      refine JD.loadB 9 rfl sh3 rfl rfl rfl ?_
      refine JD.fieldAddr rfl Try.underlying88 rfl sh86 rfl ?_
      refine JD.fieldAddr rfl Try.underlying86 rfl sh3 rfl ?_
      refine JD.loadB 9 rfl sh3 rfl rfl rfl ?_
      refine JD.fieldAddr rfl Try.underlying157 rfl sh153 rfl ?_
      refine JD.loadB 7 rfl sh153 rfl rfl rfl ?_
      refine JD.call fb104 rfl rfl (fun w hw => of104_v _ _ _ _ w x8 (by omega) (by omega) hcr) ?_
      refine JD.pure rfl rfl ?_
      refine JD.pure rfl rfl ?_
      refine JD.nil ?_
      intro w19 H
      show JL _ _ _ _ _ _ _
      refine JL.nil ?_
      ((repeat refine Ex.normal_block ?_); refine Ex.next ?_)
      ((repeat refine JC.seq ?_); refine JC.region ?_)
      refine JL.pure rfl rfl ?_
      refine JL.pure rfl rfl ?_
      refine JL.nil ?_
      ((repeat refine Ex.normal_block ?_); refine Ex.next ?_)
      ((repeat refine JC.seq ?_); refine JC.cond rfl ?_ ?_)
      · intro h105
        (try simp only [Bool.not_eq_true', Bool.not_eq_false', decide_eq_true_eq, decide_eq_false_iff_not] at h105)
        have p1 := mul_bd2 (a := dn) (b := bx) (A := 1000) (B := 100000) (by omega) (by omega) (by omega) (by omega)
        have p2 := mul_bd2 (a := -cr) (b := bv) (A := 1000) (B := 100000) (by omega) (by omega) (by omega) (by omega)
        have p3 := mul_bd2 (a := dn) (b := bv) (A := 1000) (B := 100000) (by omega) (by omega) (by omega) (by omega)
        have p4 := mul_bd2 (a := -cr) (b := bx) (A := 1000) (B := 100000) (by omega) (by omega) (by omega) (by omega)
        have p5 := mul_bd2 (a := 1000 * ax + dn * bx - -cr * bv) (b := sec) (A := 300000000) (B := 43200) (by omega) (by omega) (by omega) (by omega)
        have p6 := mul_bd2 (a := 1000 * ay + dn * bv + -cr * bx) (b := sec) (A := 300000000) (B := 43200) (by omega) (by omega) (by omega) (by omega)
        ((repeat refine JC.seq ?_); refine JC.region ?_)
        refine JL.pure rfl rfl ?_
        refine JL.neg rfl (by unfold In64; omega) rfl ?_
        refine JL.pure rfl rfl ?_
        refine JL.nil ?_
        ((repeat refine Ex.normal_block ?_); refine Ex.next ?_)
        ((repeat refine JC.seq ?_); refine JC.region ?_)
        refine JL.fieldAddr rfl Try.underlying23 rfl sh3 rfl ?_
        refine JL.loadB 1 H rfl sh3 rfl rfl rfl ?_
        refine JL.arith rfl (by unfold In64; omega) rfl ?_
        refine JL.pure rfl rfl ?_
        refine JL.fieldAddr rfl Try.underlying23 rfl sh3 rfl ?_
        refine JL.loadB 0 H rfl sh3 rfl rfl rfl ?_
        refine JL.arith rfl (show In64 (dn * bx) by unfold In64; omega) rfl ?_
        refine JL.arith rfl (by unfold In64; omega) rfl ?_
        refine JL.pure rfl rfl ?_
        refine JL.fieldAddr rfl Try.underlying23 rfl sh3 rfl ?_
        refine JL.loadB 0 H rfl sh3 rfl rfl rfl ?_
        refine JL.arith rfl (show In64 (-cr * bv) by unfold In64; omega) rfl ?_
        refine JL.arith rfl (by unfold In64; omega) rfl ?_
        refine JL.pure rfl rfl ?_
        refine JL.arith rfl (show In64 ((1000 * ax + dn * bx - -cr * bv) * sec) by unfold In64; omega) rfl ?_
        refine JL.fieldAddr rfl Try.underlying23 rfl sh3 rfl ?_
        refine JL.loadB 1 H rfl sh3 rfl rfl rfl ?_
        refine JL.arith rfl (by unfold In64; omega) rfl ?_
        refine JL.pure rfl rfl ?_
        refine JL.fieldAddr rfl Try.underlying23 rfl sh3 rfl ?_
        refine JL.loadB 0 H rfl sh3 rfl rfl rfl ?_
        refine JL.arith rfl (show In64 (dn * bv) by unfold In64; omega) rfl ?_
        refine JL.arith rfl (by unfold In64; omega) rfl ?_
        refine JL.pure rfl rfl ?_
        refine JL.fieldAddr rfl Try.underlying23 rfl sh3 rfl ?_
        refine JL.loadB 0 H rfl sh3 rfl rfl rfl ?_
        refine JL.arith rfl (show In64 (-cr * bx) by unfold In64; omega) rfl ?_
        refine JL.arith rfl (by unfold In64; omega) rfl ?_
        refine JL.pure rfl rfl ?_
        refine JL.arith rfl (show In64 ((1000 * ay + dn * bv + -cr * bx) * sec) by unfold In64; omega) rfl ?_
        refine JL.build s23 rfl rfl ?_
        refine JL.alloc H z23 rfl ?_
        intro b24 w20 H
        refine JL.storeB 0 H rfl rfl sh23 rfl rfl rfl rfl rfl ?_
        intro w21 H
        refine JL.nil ?_
        ((repeat refine Ex.normal_block ?_); refine Ex.next ?_)
        ((repeat refine JC.seq ?_); refine JC.draw 13 H mixed (by kernel_rfl) rfl ?_)
        refine JD.fieldAddr rfl Try.underlying23 rfl sh3 rfl ?_
        refine JD.loadB 0 rfl sh3 rfl rfl rfl ?_
        refine JD.fieldAddr rfl Try.underlying157 rfl sh155 rfl ?_
        refine JD.indexA 0 rfl rfl Try.underlying155 sh4 rfl (by decide) rfl ?_
        refine JD.loadB 8 rfl sh4 rfl rfl rfl ?_
        refine JD.call fb194 rfl rfl (fun w hw => next194_c _ _ w (by omega)) ?_
        refine JD.fieldAddr rfl Try.underlying23 rfl sh3 rfl ?_
        refine JD.loadB 0 rfl sh3 rfl rfl rfl ?_
        refine JD.fieldAddr rfl Try.underlying157 rfl sh155 rfl ?_
        refine JD.indexA 1 rfl rfl Try.underlying155 sh4 rfl (by decide) rfl ?_
        refine JD.loadB 8 rfl sh4 rfl rfl rfl ?_
        refine JD.call fb194 rfl rfl (fun w hw => next194_c _ _ w (by omega)) ?_
        refine JD.build s23 rfl rfl ?_
        refine JD.nil ?_
        intro w22 H
        show JL _ _ _ _ _ _ _
        refine JL.storeB 7 H rfl rfl sh23 rfl rfl rfl rfl rfl ?_
        intro w23 H
        refine JL.pure rfl rfl ?_
        refine JL.nil ?_
        ((repeat refine Ex.normal_block ?_); refine Ex.next ?_)
        ((repeat refine JC.seq ?_); refine JC.ret ?_)
        (repeat (first | refine Ex.ret_then ?_ | refine Ex.ret_block ?_))
        refine Ex.ret2 rfl (.cell rfl sh23 (LdAt.of_block (H.get (i := 7) rfl).2 rfl)) (.tmp rfl) ⟨?_, H.below⟩
        rw [hR, if_pos hb50]
        simp only [h105, if_true]
      · intro h105
        (try simp only [Bool.not_eq_true', Bool.not_eq_false', decide_eq_true_eq, decide_eq_false_iff_not] at h105)
        have p1 := mul_bd2 (a := dn) (b := bx) (A := 1000) (B := 100000) (by omega) (by omega) (by omega) (by omega)
        have p2 := mul_bd2 (a := cr) (b := bv) (A := 1000) (B := 100000) (by omega) (by omega) (by omega) (by omega)
        have p3 := mul_bd2 (a := dn) (b := bv) (A := 1000) (B := 100000) (by omega) (by omega) (by omega) (by omega)
        have p4 := mul_bd2 (a := cr) (b := bx) (A := 1000) (B := 100000) (by omega) (by omega) (by omega) (by omega)
        have p5 := mul_bd2 (a := 1000 * ax + dn * bx - cr * bv) (b := sec) (A := 300000000) (B := 43200) (by omega) (by omega) (by omega) (by omega)
        have p6 := mul_bd2 (a := 1000 * ay + dn * bv + cr * bx) (b := sec) (A := 300000000) (B := 43200) (by omega) (by omega) (by omega) (by omega)
        ((repeat refine JC.seq ?_); refine JC.skip ?_)
        ((repeat refine Ex.normal_block ?_); refine Ex.next ?_)
        ((repeat refine JC.seq ?_); refine JC.region ?_)
        refine JL.fieldAddr rfl Try.underlying23 rfl sh3 rfl ?_
        refine JL.loadB 1 H rfl sh3 rfl rfl rfl ?_
        refine JL.arith rfl (by unfold In64; omega) rfl ?_
        refine JL.pure rfl rfl ?_
        refine JL.fieldAddr rfl Try.underlying23 rfl sh3 rfl ?_
        refine JL.loadB 0 H rfl sh3 rfl rfl rfl ?_
        refine JL.arith rfl (show In64 (dn * bx) by unfold In64; omega) rfl ?_
        refine JL.arith rfl (by unfold In64; omega) rfl ?_
        refine JL.pure rfl rfl ?_
        refine JL.fieldAddr rfl Try.underlying23 rfl sh3 rfl ?_
        refine JL.loadB 0 H rfl sh3 rfl rfl rfl ?_
        refine JL.arith rfl (show In64 (cr * bv) by unfold In64; omega) rfl ?_
        refine JL.arith rfl (by unfold In64; omega) rfl ?_
        refine JL.pure rfl rfl ?_
        refine JL.arith rfl (show In64 ((1000 * ax + dn * bx - cr * bv) * sec) by unfold In64; omega) rfl ?_
        refine JL.fieldAddr rfl Try.underlying23 rfl sh3 rfl ?_
        refine JL.loadB 1 H rfl sh3 rfl rfl rfl ?_
        refine JL.arith rfl (by unfold In64; omega) rfl ?_
        refine JL.pure rfl rfl ?_
        refine JL.fieldAddr rfl Try.underlying23 rfl sh3 rfl ?_
        refine JL.loadB 0 H rfl sh3 rfl rfl rfl ?_
        refine JL.arith rfl (show In64 (dn * bv) by unfold In64; omega) rfl ?_
        refine JL.arith rfl (by unfold In64; omega) rfl ?_
        refine JL.pure rfl rfl ?_
        refine JL.fieldAddr rfl Try.underlying23 rfl sh3 rfl ?_
        refine JL.loadB 0 H rfl sh3 rfl rfl rfl ?_
        refine JL.arith rfl (show In64 (cr * bx) by unfold In64; omega) rfl ?_
        refine JL.arith rfl (by unfold In64; omega) rfl ?_
        refine JL.pure rfl rfl ?_
        refine JL.arith rfl (show In64 ((1000 * ay + dn * bv + cr * bx) * sec) by unfold In64; omega) rfl ?_
        refine JL.build s23 rfl rfl ?_
        refine JL.alloc H z23 rfl ?_
        intro b24_24 w24 H
        refine JL.storeB 0 H rfl rfl sh23 rfl rfl rfl rfl rfl ?_
        intro w25 H
        refine JL.nil ?_
        ((repeat refine Ex.normal_block ?_); refine Ex.next ?_)
        ((repeat refine JC.seq ?_); refine JC.draw 13 H mixed (by kernel_rfl) rfl ?_)
        refine JD.fieldAddr rfl Try.underlying23 rfl sh3 rfl ?_
        refine JD.loadB 0 rfl sh3 rfl rfl rfl ?_
        refine JD.fieldAddr rfl Try.underlying157 rfl sh155 rfl ?_
        refine JD.indexA 0 rfl rfl Try.underlying155 sh4 rfl (by decide) rfl ?_
        refine JD.loadB 8 rfl sh4 rfl rfl rfl ?_
        refine JD.call fb194 rfl rfl (fun w hw => next194_c _ _ w (by omega)) ?_
        refine JD.fieldAddr rfl Try.underlying23 rfl sh3 rfl ?_
        refine JD.loadB 0 rfl sh3 rfl rfl rfl ?_
        refine JD.fieldAddr rfl Try.underlying157 rfl sh155 rfl ?_
        refine JD.indexA 1 rfl rfl Try.underlying155 sh4 rfl (by decide) rfl ?_
        refine JD.loadB 8 rfl sh4 rfl rfl rfl ?_
        refine JD.call fb194 rfl rfl (fun w hw => next194_c _ _ w (by omega)) ?_
        refine JD.build s23 rfl rfl ?_
        refine JD.nil ?_
        intro w26 H
        show JL _ _ _ _ _ _ _
        refine JL.storeB 7 H rfl rfl sh23 rfl rfl rfl rfl rfl ?_
        intro w27 H
        refine JL.pure rfl rfl ?_
        refine JL.nil ?_
        ((repeat refine Ex.normal_block ?_); refine Ex.next ?_)
        ((repeat refine JC.seq ?_); refine JC.ret ?_)
        (repeat (first | refine Ex.ret_then ?_ | refine Ex.ret_block ?_))
        refine Ex.ret2 rfl (.cell rfl sh23 (LdAt.of_block (H.get (i := 7) rfl).2 rfl)) (.tmp rfl) ⟨?_, H.below⟩
        rw [hR, if_pos hb50]
        simp only [h105, if_false]
end Go.J

namespace Go.J
open Go.RowKit Go.Proofs
set_option maxRecDepth 8000
set_option linter.unusedSimpArgs false
set_option linter.unusedVariables false
/-! the statement DriftMore: its walk -/
def Patch.cs (p : Patch) : List Value := [.int .i64 p.time, p.lv, p.rv, p.bv, .bool p.off]
def fineR (l : List Run) : Prop := Tame l ∧ l.length ≤ 8192
theorem fine_nil : fineR [] := ⟨(fun r h => by cases h), by simp⟩
theorem fine_right {g : Grid} (hg : g.ok = true) {l : List Run} (h : rightB g.W g.H l = true) : fineR l := by
  obtain ⟨hW, hH, _, _⟩ := Grid.ok_b hg
  exact ⟨tame_right hW.2 (right_iff.1 h).1, (right_iff.1 h).2⟩
theorem step_fine {g : Grid} (hs : g.ok = true → g.W * g.H ≤ 4096) (cu wi : List Flow) (d : Drifter) (p : QP) (sec : Int) : fineR (stepAllR g cu wi d p sec).1.l ∧ fineR (stepAllR g cu wi d p sec).1.r ∧ fineR (stepAllR g cu wi d p sec).1.b := by
  unfold stepAllR
  split
  · rename_i h
    rw [Bool.and_eq_true] at h
    obtain ⟨hg, _⟩ := patR_ok hs h.2
    unfold stepR
    split
    · exact ⟨fine_nil, fine_nil, fine_nil⟩
    · split
      · exact ⟨fine_nil, fine_nil, fine_nil⟩
      · unfold stepQ
        exact ⟨fine_right hg (runsR_small hg (hs hg) _).2.1, fine_right hg (runsR_small hg (hs hg) _).2.1, fine_right hg (runsR_small hg (hs hg) _).2.1⟩
  · exact ⟨fine_nil, fine_nil, fine_nil⟩
end Go.J

namespace Go.J
open Go.RowKit Go.Proofs
set_option maxRecDepth 8000
set_option maxHeartbeats 3200000
set_option linter.unusedSimpArgs false
set_option linter.unusedVariables false
/-! the statement DriftKeeps: its walk -/
theorem step_err {g : Grid} {cu wi : List Flow} {d : Drifter} {p : QP} {sec : Int} (h : (stepAllR g cu wi d p sec).2 ≠ 0) : (stepAllR g cu wi d p sec).1 = zQP := by
  unfold stepAllR at h ⊢
  split
  · rename_i hv
    rw [if_pos hv] at h
    unfold stepR at h ⊢
    split
    · rfl
    · split
      · rfl
      · rename_i h1 h2
        rw [if_neg h1, if_neg h2] at h
        exact absurd rfl h
  · rfl
theorem step_in {g : Grid} (hs : g.ok = true → g.W * g.H ≤ 4096) {cu wi : List Flow} {d : Drifter} {p : QP} {sec : Int} (h : (stepAllR g cu wi d p sec).2 = 0) : (0 ≤ p.time ∧ p.time ≤ 1073741824) ∧ (1 ≤ sec ∧ sec ≤ 43200) ∧ fineR p.b := by
  unfold stepAllR at h
  split at h
  · rename_i hv
    rw [Bool.and_eq_true] at hv
    obtain ⟨hg, ht, ⟨_, _, a3⟩, _⟩ := patR_ok hs hv.2
    have := hv.1
    unfold seaB at this
    simp only [Bool.and_eq_true, decide_eq_true_eq] at this
    exact ⟨ht, this.2, fine_right hg a3⟩
  · cases h
theorem gone_bd {g : Grid} {cu wi : List Flow} {d : Drifter} {c : Cell} {side time sec cx cy wx wy down cross : Int} {ux uy : Bool} (hs : seaB g cu wi d sec = true) (h1 : u16' cx) (h2 : u16' cy) (h3 : u16' wx) (h4 : u16' wy) (h5 : u16' down) (h6 : u16' cross) :
    (-13000000 ≤ (goneR cu wi d c side time sec cx cy wx wy down cross ux uy).1.X ∧ (goneR cu wi d c side time sec cx cy wx wy down cross ux uy).1.X ≤ 13000000) ∧ -13000000 ≤ (goneR cu wi d c side time sec cx cy wx wy down cross ux uy).1.Y ∧ (goneR cu wi d c side time sec cx cy wx wy down cross ux uy).1.Y ≤ 13000000 := by
  unfold seaB flowsB at hs
  simp only [Bool.and_eq_true, decide_eq_true_eq] at hs
  obtain ⟨⟨⟨⟨hgok, hf1⟩, hf2⟩, hdo⟩, hsec⟩ := hs
  unfold Drifter.ok at hdo
  simp only [Bool.and_eq_true, decide_eq_true_eq] at hdo
  obtain ⟨t1, o1⟩ := flow_facts hf1
  obtain ⟨t2, o2⟩ := flow_facts hf2
  have l0 : Bnd.le ⟨0, 0⟩ := Int.le_refl _
  have y0 : Bnd.tame ⟨0, 0⟩ 100000 := by unfold Bnd.tame; simp
  have lA := atR_le (c := c) (time := time) cu (⟨0, 0⟩, ⟨0, 0⟩, false) o1 l0 l0
  have lB := atR_le (c := c) (time := time) wi (⟨0, 0⟩, ⟨0, 0⟩, false) o2 l0 l0
  have tA := atR_tame (c := c) (time := time) cu (⟨0, 0⟩, ⟨0, 0⟩, false) o1 y0 y0
  have tB := atR_tame (c := c) (time := time) wi (⟨0, 0⟩, ⟨0, 0⟩, false) o2 y0 y0
  change (atR cu c time).1.le ∧ (atR cu c time).2.1.le at lA
  change (atR wi c time).1.le ∧ (atR wi c time).2.1.le at lB
  change (atR cu c time).1.tame 100000 ∧ (atR cu c time).2.1.tame 100000 at tA
  change (atR wi c time).1.tame 100000 ∧ (atR wi c time).2.1.tame 100000 at tB
  unfold goneR
  generalize atR cu c time = A at *
  generalize atR wi c time = B at *
  unfold Bnd.le at lA lB
  unfold Bnd.tame at tA tB
  have k1 := ofI_bd' lA.1 h1
  have k2 := ofI_bd' lA.2 h2
  have k3 := ofI_bd' lB.1 h3
  have k4 := ofI_bd' lB.2 h4
  have k5 := ofI_bd' (low := d.dl) (high := d.dh) (by omega) h5
  have k6 := ofI_bd' (low := d.cl) (high := d.ch) (by omega) h6
  split
  · unfold goneX goneY
    generalize ofI A.1.low A.1.high cx = ax at *
    generalize ofI A.2.1.low A.2.1.high cy = ay at *
    generalize ofI B.1.low B.1.high wx = bx at *
    generalize ofI B.2.1.low B.2.1.high wy = bv at *
    generalize ofI d.dl d.dh down = dn at *
    generalize ofI d.cl d.ch cross = cr at *
    have hcs : -1000 ≤ (if side = 1 then -cr else cr) ∧ (if side = 1 then -cr else cr) ≤ 1000 := by split <;> omega
    generalize (if side = 1 then -cr else cr) = cs at *
    have p1 := mul_bd2 (a := dn) (b := bx) (A := 1000) (B := 100000) (by omega) (by omega) (by omega) (by omega)
    have p2 := mul_bd2 (a := cs) (b := bv) (A := 1000) (B := 100000) (by omega) (by omega) (by omega) (by omega)
    have p3 := mul_bd2 (a := dn) (b := bv) (A := 1000) (B := 100000) (by omega) (by omega) (by omega) (by omega)
    have p4 := mul_bd2 (a := cs) (b := bx) (A := 1000) (B := 100000) (by omega) (by omega) (by omega) (by omega)
    have p5 := mul_bd2 (a := 1000 * ax + dn * bx - cs * bv) (b := sec) (A := 300000000) (B := 43200) (by omega) (by omega) (by omega) (by omega)
    have p6 := mul_bd2 (a := 1000 * ay + dn * bv + cs * bx) (b := sec) (A := 300000000) (B := 43200) (by omega) (by omega) (by omega) (by omega)
    have n1 := nextI_bd ux p5.1 p5.2
    have n2 := nextI_bd uy p6.1 p6.2
    simp only
    omega
  · simp
theorem keeps0_c (g : Grid) (lv cv wv : Value) (cu wi : List Flow) (d : Drifter) (t : Int) (lf rf bf : Value) (l r b : List Run) (off : Bool) (sec side part : Int) (x : Picks) (w : World) (hl : SlR w lv g.land) (hcl : capOK lv) (hc : FlowsIs w cv cu) (hw : FlowsIs w wv wi) (h1 : SlR w lf l) (h2 : SlR w rf r) (h3 : SlR w bf b)
    (c1 : capOK lf) (c2 : capOK rf) (c3 : capOK bf) (hsd : 0 ≤ side ∧ side ≤ 255) (hk : side % 2 = 0) (hpt : u16' part) (hx : x.ok) :
    Calls Try.prog 22 #[seaEv g lv cv wv d, Patch.ev ⟨t, lf, l, rf, r, bf, b, off⟩, .int .i64 sec, .int .u8 side, .int .u16 part, x.ev] w (fun e w' => e = .returned (.bool true) ∧ Below w.heap.size w w') := by
  obtain ⟨la, lc, rfl⟩ := hl.len
  obtain ⟨ca, cc, rfl⟩ := hc.1.len
  obtain ⟨wa, wc, rfl⟩ := hw.1.len
  obtain ⟨a1, d1, rfl⟩ := h1.len
  obtain ⟨a2, d2, rfl⟩ := h2.len
  obtain ⟨a3, d3, rfl⟩ := h3.len
  obtain ⟨px, py, cx, cy, wx, wy, down, cross, way, ux, uy⟩ := x
  have hx' := hx
  obtain ⟨⟨x1, x2⟩, ⟨x3, x4⟩, ⟨x5, x6⟩, x7, x8, x9⟩ := hx'
  simp only at x1 x2 x3 x4 x5 x6 x7 x8 x9
  refine calls_J (args := [.agg ⟨[.int .i64 g.W, .int .i64 g.H, .int .i64 g.S, .slice la g.land.length lc, .slice ca cu.length cc, .slice wa wi.length wc, .int .i64 d.dl, .int .i64 d.dh, .int .i64 d.cl, .int .i64 d.ch, .bool d.jibes]⟩, .agg ⟨[.int .i64 t, .slice a1 l.length d1, .slice a2 r.length d2, .slice a3 b.length d3, .bool off]⟩, .int .i64 sec, .int .u8 side, .int .u16 part, .agg ⟨[.int .u16 px, .int .u16 py, .int .u16 cx, .int .u16 cy, .int .u16 wx, .int .u16 wy, .int .u16 down, .int .u16 cross, .int .u16 way, .bool ux, .bool uy]⟩]) Try.func22 rfl Try.ntmps22 rfl ?_
  have H := Own.start w
  ((repeat refine JC.seq ?_); refine JC.region ?_)
  refine JL.box H rfl rfl rfl ?_
  intro b6 w1 H
  refine JL.box H rfl rfl rfl ?_
  intro b7 w2 H
  refine JL.box H rfl rfl rfl ?_
  intro b11 w3 H
  refine JL.pure rfl rfl ?_
  refine JL.nil ?_
  ((repeat refine Ex.normal_block ?_); refine Ex.next ?_)
  ((repeat refine JC.seq ?_); refine JC.region ?_)
  refine JL.callP H fb60 rfl rfl (alive60_c _) ?_
  intro w4 H _
  refine JL.pure rfl rfl ?_
  refine JL.nil ?_
  ((repeat refine Ex.normal_block ?_); refine Ex.next ?_)
  ((repeat refine JC.seq ?_); refine JC.region ?_)
  refine JL.fieldAddr rfl Try.underlying88 rfl sh52 rfl ?_
  refine JL.loadB 2 H rfl sh52 rfl rfl rfl ?_
  refine JL.fieldAddr rfl Try.underlying88 rfl sh84 rfl ?_
  refine JL.loadB 2 H rfl sh84 rfl rfl rfl ?_
  refine JL.loadB 1 H rfl sh90 rfl rfl rfl ?_
  refine JL.buildSlice H Try.underlying216 sh90 z90 rfl rfl rfl rfl rfl ?_
  intro b32 w5 H
  refine JL.call fb61 rfl rfl (great04_c g _ 200 _ _ _ cu wi [⟨t, _, l, _, r, _, b, off⟩] _ (hl.grow H.below) (hc.grow H.below) (hw.grow H.below) (H.blkSl (j := 0) (enc := Patch.cs) rfl [⟨t, .slice a1 l.length d1, l, .slice a2 r.length d2, r, .slice a3 b.length d3, b, off⟩] rfl (fun _ => rfl) (by simp)) (fun p9 hp9 => by
    simp only [List.mem_singleton] at hp9
    subst hp9
    exact ⟨h1.grow H.below, h2.grow H.below, h3.grow H.below⟩)) ?_
  rintro _ w6 ⟨gb, rfl, hgb, K⟩
  have H := H.grow K
  refine ⟨_, rfl, ?_⟩
  refine JL.pure rfl rfl ?_
  refine JL.cases 34 rfl ?_ ?_
  · intro h34
    (try simp only [Bool.not_eq_true', Bool.not_eq_false', decide_eq_true_eq, decide_eq_false_iff_not] at h34)
    refine JL.pass rfl rfl rfl rfl ?_
    refine JL.pass rfl rfl rfl rfl ?_
    refine JL.pure rfl rfl ?_
    refine JL.nil ?_
    ((repeat refine Ex.normal_block ?_); refine Ex.next ?_)
    ((repeat refine JC.seq ?_); refine JC.cond rfl (fun _ => ?_) (fun h => by cases h))
    ((repeat refine JC.seq ?_); refine JC.region ?_)
    refine JL.pure rfl rfl ?_
    refine JL.pure rfl rfl ?_
    refine JL.nil ?_
    ((repeat refine Ex.normal_block ?_); refine Ex.next ?_)
    ((repeat refine JC.seq ?_); refine JC.ret ?_)
    (repeat (first | refine Ex.ret_then ?_ | refine Ex.ret_block ?_))
    refine Ex.ret1 rfl (.tmp rfl) ⟨rfl, H.below⟩
  · intro h34
    (try simp only [Bool.not_eq_true', Bool.not_eq_false', decide_eq_true_eq, decide_eq_false_iff_not] at h34)
    refine JL.want rfl rfl ?_
    refine JL.pure rfl rfl ?_
    refine JL.want rfl rfl ?_
    refine JL.pure rfl rfl ?_
    refine JL.pure rfl rfl ?_
    refine JL.nil ?_
    ((repeat refine Ex.normal_block ?_); refine Ex.next ?_)
    ((repeat refine JC.seq ?_); refine JC.cond rfl ?_ ?_)
    · intro h37
      (try simp only [Bool.not_eq_true', Bool.not_eq_false', decide_eq_true_eq, decide_eq_false_iff_not] at h37)
      ((repeat refine JC.seq ?_); refine JC.region ?_)
      refine JL.pure rfl rfl ?_
      refine JL.pure rfl rfl ?_
      refine JL.nil ?_
      ((repeat refine Ex.normal_block ?_); refine Ex.next ?_)
      ((repeat refine JC.seq ?_); refine JC.ret ?_)
      (repeat (first | refine Ex.ret_then ?_ | refine Ex.ret_block ?_))
      refine Ex.ret1 rfl (.tmp rfl) ⟨rfl, H.below⟩
    · intro h37
      (try simp only [Bool.not_eq_true', Bool.not_eq_false', decide_eq_true_eq, decide_eq_false_iff_not] at h37)
      ((repeat refine JC.seq ?_); refine JC.skip ?_)
      ((repeat refine Ex.normal_block ?_); refine Ex.next ?_)
      ((repeat refine JC.seq ?_); refine JC.region ?_)
      refine JL.fieldAddr rfl Try.underlying88 rfl sh52 rfl ?_
      refine JL.loadB 3 H rfl sh52 rfl rfl rfl ?_
      refine JL.fieldAddr rfl Try.underlying88 rfl sh84 rfl ?_
      refine JL.loadB 3 H rfl sh84 rfl rfl rfl ?_
      refine JL.fieldAddr rfl Try.underlying88 rfl sh86 rfl ?_
      refine JL.loadB 3 H rfl sh86 rfl rfl rfl ?_
      refine JL.loadB 2 H rfl sh90 rfl rfl rfl ?_
      refine JL.pure rfl rfl ?_
      have hsm : g.ok = true → g.W * g.H ≤ 4096 := by
        have hg9 := hgb (by simp_all)
        have := (great_small hg9).1
        intro hok; have := this hok; omega
      refine JL.call fb64 rfl rfl (step64_c g _ _ _ cu wi d t _ _ _ l r b off sec _ (hl.grow H.below) hcl (hc.grow H.below) (hw.grow H.below) (h1.grow H.below) (h2.grow H.below) (h3.grow H.below) c1 c2 c3 hsm) ?_
      rintro _ w7 ⟨va, vb, vc, rfl, K⟩
      obtain ⟨x2a, y2a, rfl⟩ := K.row_slice (j := 0) rfl
      obtain ⟨x2b, y2b, rfl⟩ := K.row_slice (j := 1) rfl
      obtain ⟨x2c, y2c, rfl⟩ := K.row_slice (j := 2) rfl
      have H := H.join K
      refine ⟨_, rfl, ?_⟩
      refine JL.pure rfl rfl ?_
      refine JL.pure rfl rfl ?_
      refine JL.pure rfl rfl ?_
      refine JL.alloc H z90 rfl ?_
      intro b14 w8 H
      refine JL.storeB 0 H rfl rfl sh90 rfl rfl rfl rfl rfl ?_
      intro w9 H
      refine JL.pure rfl rfl ?_
      refine JL.nil ?_
      ((repeat refine Ex.normal_block ?_); refine Ex.next ?_)
      ((repeat refine JC.seq ?_); refine JC.region ?_)
      refine JL.pure rfl rfl ?_
      refine JL.pure rfl rfl ?_
      refine JL.nil ?_
      ((repeat refine Ex.normal_block ?_); refine Ex.next ?_)
      ((repeat refine JC.seq ?_); refine JC.cond rfl ?_ ?_)
      · intro h52
        (try simp only [Bool.not_eq_true', Bool.not_eq_false', decide_eq_true_eq, decide_eq_false_iff_not] at h52)
        have he : (stepAllR g cu wi d ⟨t, l, r, b, off⟩ sec).1 = zQP := step_err (by simpa using h52)
        ((repeat refine JC.seq ?_); refine JC.region ?_)
        refine JL.pure rfl rfl ?_
        refine JL.pure rfl rfl ?_
        refine JL.re 54 rfl (v' := .bool true) (rfl) ?_
        refine JL.want rfl rfl ?_
        refine JL.fieldAddr rfl Try.underlying90 rfl sh3 rfl ?_
        refine JL.want rfl rfl ?_
        refine JL.loadB 0 H rfl sh3 rfl rfl rfl ?_
        refine JL.want rfl rfl ?_
        refine JL.pure rfl rfl ?_
        refine JL.re 57 rfl (v' := .bool true) (congrArg Value.bool (decide_eq_true (by rw [he]; rfl))) ?_
        refine JL.pure rfl rfl ?_
        refine JL.pure rfl rfl ?_
        refine JL.re 59 rfl (v' := .bool true) (rfl) ?_
        refine JL.want rfl rfl ?_
        refine JL.fieldAddr rfl Try.underlying90 rfl sh50 rfl ?_
        refine JL.want rfl rfl ?_
        refine JL.loadB 0 H rfl sh50 rfl rfl rfl ?_
        refine JL.want rfl rfl ?_
        refine JL.len rfl Try.underlying50 rfl ?_
        refine JL.want rfl rfl ?_
        refine JL.pure rfl rfl ?_
        refine JL.re 63 rfl (v' := .bool true) (congrArg Value.bool (decide_eq_true (by rw [he]; rfl))) ?_
        refine JL.pure rfl rfl ?_
        refine JL.pure rfl rfl ?_
        refine JL.nil ?_
        ((repeat refine Ex.normal_block ?_); refine Ex.next ?_)
        ((repeat refine JC.seq ?_); refine JC.ret ?_)
        (repeat (first | refine Ex.ret_then ?_ | refine Ex.ret_block ?_))
        refine Ex.ret1 rfl (.tmp rfl) ⟨rfl, H.below⟩
      · intro h52
        (try simp only [Bool.not_eq_true', Bool.not_eq_false', decide_eq_true_eq, decide_eq_false_iff_not] at h52)
        have hz2 : (stepAllR g cu wi d ⟨t, l, r, b, off⟩ sec).2 = 0 := by simpa using h52
        have hin := step_in hsm hz2
        have hfn := step_fine hsm cu wi d ⟨t, l, r, b, off⟩ sec
        obtain ⟨⟨hgok, hsea, _⟩, hqt, ⟨hrl, hrr⟩, hpb, hkey⟩ := keeps_law hsm (q := (stepAllR g cu wi d ⟨t, l, r, b, off⟩ sec).1) (Prod.ext rfl hz2)
        (try simp only at hqt)
        (try simp only at hrl)
        (try simp only at hrr)
        (try simp only at hpb)
        (try simp only at hkey)
        (try simp only at hin)
        obtain ⟨hW, hH, hS, _⟩ := Grid.ok_b hgok
        have hck : (cellsR g l).2 = 0 := by unfold cellsR; rw [checked_one hgok hrl]; rfl
        ((repeat refine JC.seq ?_); refine JC.skip ?_)
        ((repeat refine Ex.normal_block ?_); refine Ex.next ?_)
        ((repeat refine JC.seq ?_); refine JC.region ?_)
        refine JL.pure rfl rfl ?_
        refine JL.convI rfl Try.underlying5 Try.underlying3 (by unfold In64; omega) rfl ?_
        refine JL.remP rfl rfl (by omega) (by decide) rfl ?_
        refine JL.re 67 rfl (v' := .int .i64 0) (by rw [hk]) ?_
        refine JL.pure rfl rfl ?_
        refine JL.nil ?_
        ((repeat refine Ex.normal_block ?_); refine Ex.next ?_)
        ((repeat refine JC.seq ?_); refine JC.draw 15 H mixed (by kernel_rfl) rfl ?_)
        refine JD.fieldAddr rfl Try.underlying90 rfl sh50 rfl ?_
        refine JD.loadB 6 rfl sh50 rfl rfl rfl ?_
        refine JD.fieldAddr rfl Try.underlying90 rfl sh50 rfl ?_
        refine JD.loadB 6 rfl sh50 rfl rfl rfl ?_
        refine JD.buildA Try.underlying158 sh50 za158 rfl rfl ?_
        refine JD.pure rfl rfl ?_
        refine JD.index1 0 rfl rfl Try.underlying158 sh50 rfl (by decide) rfl rfl ?_
        refine JD.fieldAddr rfl Try.underlying90 rfl sh50 rfl ?_
        refine JD.loadB 0 rfl sh50 rfl rfl rfl ?_
        refine JD.fieldAddr rfl Try.underlying90 rfl sh50 rfl ?_
        refine JD.loadB 0 rfl sh50 rfl rfl rfl ?_
        refine JD.buildA Try.underlying158 sh50 za158 rfl rfl ?_
        refine JD.allocS 14 (.tmp 79) z158 rfl rfl ?_
        refine JD.pure rfl rfl ?_
        refine JD.storeF rfl rfl rfl sh158 rfl rfl rfl ?_
        refine JD.nil ?_
        intro w10 v18 H
        obtain ⟨b18, rfl, H⟩ := H.ptr (j := 0) rfl
        show JL _ _ _ _ _ _ _
        refine JL.nil ?_
        ((repeat refine Ex.normal_block ?_); refine Ex.next ?_)
        ((repeat refine JC.seq ?_); refine JC.region ?_)
        refine JL.fieldAddr rfl Try.underlying88 rfl sh52 rfl ?_
        refine JL.loadB 8 H rfl sh52 rfl rfl rfl ?_
        refine JL.pure rfl rfl ?_
        refine JL.call fb49 rfl rfl (cells49_c g _ _ l _ (hl.grow H.below) (h1.grow H.below)) ?_
        rintro _ w11 ⟨cv9, rfl, K⟩
        obtain ⟨ca9, cc9, rfl⟩ := K.row_slice (j := 0) rfl
        have H := H.join K
        refine ⟨_, rfl, ?_⟩
        refine JL.pure rfl rfl ?_
        refine JL.pure rfl rfl ?_
        refine JL.pure rfl rfl ?_
        refine JL.pure rfl rfl ?_
        refine JL.pure rfl rfl ?_
        refine JL.nil ?_
        ((repeat refine Ex.normal_block ?_); refine Ex.next ?_)
        ((repeat refine JC.seq ?_); refine JC.region ?_)
        refine JL.pure rfl rfl ?_
        refine JL.pure rfl rfl ?_
        refine JL.re 88 rfl (v' := .bool false) (congrArg Value.bool (by rw [hck]; rfl)) ?_
        refine JL.pure rfl rfl ?_
        refine JL.want rfl rfl ?_
        refine JL.pure rfl rfl ?_
        refine JL.want rfl rfl ?_
        refine JL.len rfl Try.underlying68 rfl ?_
        refine JL.want rfl rfl ?_
        refine JL.pure rfl rfl ?_
        refine JL.pure rfl rfl ?_
        refine JL.nil ?_
        ((repeat refine Ex.normal_block ?_); refine Ex.next ?_)
        ((repeat refine JC.seq ?_); refine JC.cond rfl ?_ ?_)
        · intro h93
          (try simp only [Bool.not_eq_true', Bool.not_eq_false', decide_eq_true_eq, decide_eq_false_iff_not] at h93)
          
          ((repeat refine JC.seq ?_); refine JC.region ?_)
          refine JL.pure rfl rfl ?_
          refine JL.pure rfl rfl ?_
          refine JL.re 95 rfl (v' := .bool true) (rfl) ?_
          refine JL.want rfl rfl ?_
          refine JL.pure rfl rfl ?_
          refine JL.want rfl rfl ?_
          refine JL.pure rfl rfl ?_
          refine JL.re 97 rfl (v' := .bool true) (congrArg Value.bool (decide_eq_true hck)) ?_
          refine JL.pure rfl rfl ?_
          refine JL.pure rfl rfl ?_
          refine JL.re 99 rfl (v' := .bool true) (rfl) ?_
          refine JL.want rfl rfl ?_
          refine JL.fieldAddr rfl Try.underlying90 rfl sh50 rfl ?_
          refine JL.want rfl rfl ?_
          refine JL.loadB 8 H rfl sh50 rfl rfl rfl ?_
          refine JL.want rfl rfl ?_
          refine JL.fieldAddr rfl Try.underlying90 rfl sh50 rfl ?_
          refine JL.want rfl rfl ?_
          refine JL.loadB 2 H rfl sh50 rfl rfl rfl ?_
          refine JL.want rfl rfl ?_
          refine JL.callP H fb44 rfl rfl (part_c _ _ b (stepAllR g cu wi d ⟨t, l, r, b, off⟩ sec).1.b _ (h3.grow H.below) (runSl H (j := 5) rfl (Nat.le_trans hfn.2.2.2 (by decide))) hin.2.2.1 hfn.2.2.1) ?_
          intro w12 H _
          refine JL.re 104 rfl (v' := .bool true) (congrArg Value.bool hpb) ?_
          refine JL.pure rfl rfl ?_
          refine JL.pure rfl rfl ?_
          refine JL.nil ?_
          ((repeat refine Ex.normal_block ?_); refine Ex.next ?_)
          ((repeat refine JC.seq ?_); refine JC.ret ?_)
          (repeat (first | refine Ex.ret_then ?_ | refine Ex.ret_block ?_))
          refine Ex.ret1 rfl (.tmp rfl) ⟨rfl, H.below⟩
        · intro h93
          (try simp only [Bool.not_eq_true', Bool.not_eq_false', decide_eq_true_eq, decide_eq_false_iff_not] at h93)
          have hn9 : 0 < (cellsR g l).1.length := by
            (try simp only [decide_eq_false_iff_not] at h93)
            omega
          obtain ⟨ix, hix, hix2⟩ : ∃ ix : Nat, part % ((cellsR g l).1.length : Int) = ix ∧ ix < (cellsR g l).1.length := by
            have e1 := Int.emod_nonneg part (b := ((cellsR g l).1.length : Int)) (by omega)
            have e2 := Int.emod_lt_of_pos part (b := ((cellsR g l).1.length : Int)) (by omega)
            exact ⟨(part % ((cellsR g l).1.length : Int)).toNat, by omega, by omega⟩
          have hcx9 : (cellsR g l).1[ix]? = some (cellsR g l).1[ix] := by simp [hix2]
          have hcm := (cellsR_mem (List.getElem_mem hix2)).2
          obtain ⟨c, hce⟩ : ∃ c, (cellsR g l).1[ix] = c := ⟨_, rfl⟩
          rw [hce] at hcx9 hcm
          have hcb := hkey 0 (by simp) c hcm
          have hcg := canon_inG (canon_of_right hrl) hcm
          unfold inG at hcg
          obtain ⟨G9, hG9⟩ : ∃ G, G = goneR cu wi d c 0 t sec cx cy wx wy down cross ux uy := ⟨_, rfl⟩
          have hgi := gone_in (c := c) (time := t) (ux := ux) (uy := uy) hsea (show (0 : Int) = 0 ∨ (0 : Int) = 1 by simp) hcb.1 x3 x4 x5 x6 x7 x8
          have hgd := gone_bd (c := c) (side := 0) (time := t) (ux := ux) (uy := uy) hsea x3 x4 x5 x6 x7 x8
          rw [← hG9] at hgi hgd
          obtain ⟨⟨mx, my⟩, gok⟩ := G9
          obtain ⟨hgk, hhas⟩ := hgi
          simp only at hgk hhas hgd
          subst hgk
          have hs1 := Int.emod_nonneg px (b := g.S) (by omega)
          have hs2 := Int.emod_lt_of_pos px (b := g.S) (by omega)
          have hs3 := Int.emod_nonneg py (b := g.S) (by omega)
          have hs4 := Int.emod_lt_of_pos py (b := g.S) (by omega)
          have hm1 := mul_bd (M := 0) (show 0 ≤ c.X by omega) (show c.X ≤ 256 by omega) (show 0 ≤ g.S by omega) hS.2
          have hm2 := mul_bd (M := 0) (show 0 ≤ c.Y by omega) (show c.Y ≤ 256 by omega) (show 0 ≤ g.S by omega) hS.2
          have hland := hcb.2 ⟨mx, my⟩ hhas (c.X * g.S + px % g.S) (c.Y * g.S + py % g.S) way x9 (by omega) (by omega)
          have w1 := wayI_bd (m := mx) x9
          have w2 := wayI_bd (m := my) x9
          have hp16 : 0 ≤ way ∧ way ≤ 65535 := x9
          have hq1 := mul_bd2 (a := mx) (b := way) (A := 13000000) (B := 65535) (by omega) (by omega) (by omega) (by omega)
          have hq2 := mul_bd2 (a := my) (b := way) (A := 13000000) (B := 65535) (by omega) (by omega) (by omega) (by omega)
          have hv1 : w64 ((mx * way).tdiv 65536) = wayI mx way := w64_id (by unfold In64; unfold wayI at w1; omega)
          have hv2 : w64 ((my * way).tdiv 65536) = wayI my way := w64_id (by unfold In64; unfold wayI at w2; omega)
          ((repeat refine JC.seq ?_); refine JC.skip ?_)
          ((repeat refine Ex.normal_block ?_); refine Ex.next ?_)
          ((repeat refine JC.seq ?_); refine JC.region ?_)
          refine JL.pure rfl rfl ?_
          refine JL.pure rfl rfl ?_
          refine JL.convI rfl Try.underlying153 Try.underlying3 (by unfold u16' at hpt; unfold In64; omega) rfl ?_
          refine JL.pure rfl rfl ?_
          refine JL.len rfl Try.underlying68 rfl ?_
          refine JL.remP rfl rfl (by unfold u16' at hpt; omega) (by omega) rfl ?_
          obtain ⟨gg9, cc8, hsl9, _⟩ := H.rowAt (j := 0) (enc := Cell.cs) (fun _ => rfl) rfl hcx9
          cases hsl9
          refine JL.indexS ix rfl rfl Try.underlying68 sh62 hix hix2 rfl ?_
          refine JL.load rfl sh62 (H.rowLd (j := 0) (e := 62) (sz := 2) (enc := Cell.cs) (fun _ => rfl) rfl hcx9) rfl ?_
          refine JL.alloc H z62 rfl ?_
          intro b21 w13 H
          refine JL.storeB 0 H rfl rfl sh62 rfl rfl rfl rfl rfl ?_
          intro w14 H
          refine JL.nil ?_
          ((repeat refine Ex.normal_block ?_); refine Ex.next ?_)
          ((repeat refine JC.seq ?_); refine JC.region ?_)
          refine JL.loadB 10 H rfl sh88 rfl rfl rfl ?_
          refine JL.loadB 0 H rfl sh62 rfl rfl rfl ?_
          refine JL.pure rfl rfl ?_
          refine JL.fieldAddr rfl Try.underlying90 rfl sh3 rfl ?_
          refine JL.loadB 9 H rfl sh3 rfl rfl rfl ?_
          refine JL.pure rfl rfl ?_
          refine JL.loadB 8 H rfl sh157 rfl rfl rfl ?_
          refine JL.callP H fb101 rfl rfl (show Pur Try.prog 101 _ _ (.tuple #[.agg ⟨[.int .i64 mx, .int .i64 my]⟩, .bool true]) by
            have := gone101_c g _ _ _ cu wi d c 0 t sec ⟨px, py, cx, cy, wx, wy, down, cross, way, ux, uy⟩ _ hsea hx (hc.grow H.below) (hw.grow H.below) (hl.grow H.below)
            rw [← hG9] at this
            exact this) ?_
          intro w15 H _
          refine JL.pure rfl rfl ?_
          refine JL.pure rfl rfl ?_
          refine JL.pure rfl rfl ?_
          refine JL.alloc H z23 rfl ?_
          intro b22 w16 H
          refine JL.storeB 0 H rfl rfl sh23 rfl rfl rfl rfl rfl ?_
          intro w17 H
          refine JL.pure rfl rfl ?_
          refine JL.nil ?_
          ((repeat refine Ex.normal_block ?_); refine Ex.next ?_)
          ((repeat refine JC.seq ?_); refine JC.region ?_)
          refine JL.pure rfl rfl ?_
          refine JL.pure rfl rfl ?_
          refine JL.re 126 rfl (v' := .bool false) (rfl) ?_
          refine JL.nil ?_
          ((repeat refine Ex.normal_block ?_); refine Ex.next ?_)
          ((repeat refine JC.seq ?_); refine JC.cond rfl (fun h => by cases h) (fun _ => ?_))
          ((repeat refine JC.seq ?_); refine JC.skip ?_)
          ((repeat refine Ex.normal_block ?_); refine Ex.next ?_)
          ((repeat refine JC.seq ?_); refine JC.draw 33 H mixed (by kernel_rfl) rfl ?_)
          refine JD.fieldAddr rfl Try.underlying62 rfl sh3 rfl ?_
          refine JD.loadB 1 rfl sh3 rfl rfl rfl ?_
          refine JD.fieldAddr rfl Try.underlying88 rfl sh52 rfl ?_
          refine JD.fieldAddr rfl Try.underlying52 rfl sh3 rfl ?_
          refine JD.loadB 11 rfl sh3 rfl rfl rfl ?_
          refine JD.arith rfl (show In64 (c.X * g.S) by unfold In64; omega) rfl ?_
          refine JD.fieldAddr rfl Try.underlying157 rfl sh154 rfl ?_
          refine JD.indexA 0 rfl rfl Try.underlying154 sh153 rfl (by decide) rfl ?_
          refine JD.loadB 9 rfl sh153 rfl rfl rfl ?_
          refine JD.convI rfl Try.underlying153 Try.underlying3 (by unfold u16 at x1; unfold In64; omega) rfl ?_
          refine JD.fieldAddr rfl Try.underlying88 rfl sh52 rfl ?_
          refine JD.fieldAddr rfl Try.underlying52 rfl sh3 rfl ?_
          refine JD.loadB 11 rfl sh3 rfl rfl rfl ?_
          refine JD.remP rfl rfl (by unfold u16 at x1; omega) hS.1 rfl ?_
          refine JD.arith rfl (by unfold In64; omega) rfl ?_
          refine JD.fieldAddr rfl Try.underlying62 rfl sh3 rfl ?_
          refine JD.loadB 1 rfl sh3 rfl rfl rfl ?_
          refine JD.fieldAddr rfl Try.underlying88 rfl sh52 rfl ?_
          refine JD.fieldAddr rfl Try.underlying52 rfl sh3 rfl ?_
          refine JD.loadB 11 rfl sh3 rfl rfl rfl ?_
          refine JD.arith rfl (show In64 (c.Y * g.S) by unfold In64; omega) rfl ?_
          refine JD.fieldAddr rfl Try.underlying157 rfl sh154 rfl ?_
          refine JD.indexA 1 rfl rfl Try.underlying154 sh153 rfl (by decide) rfl ?_
          refine JD.loadB 9 rfl sh153 rfl rfl rfl ?_
          refine JD.convI rfl Try.underlying153 Try.underlying3 (by unfold u16 at x2; unfold In64; omega) rfl ?_
          refine JD.fieldAddr rfl Try.underlying88 rfl sh52 rfl ?_
          refine JD.fieldAddr rfl Try.underlying52 rfl sh3 rfl ?_
          refine JD.loadB 11 rfl sh3 rfl rfl rfl ?_
          refine JD.remP rfl rfl (by unfold u16 at x2; omega) hS.1 rfl ?_
          refine JD.arith rfl (by unfold In64; omega) rfl ?_
          refine JD.build s23 rfl rfl ?_
          refine JD.allocS 32 (.tmp 157) z23 rfl rfl ?_
          refine JD.storeF rfl rfl rfl sh23 rfl rfl rfl ?_
          refine JD.nil ?_
          intro w18 v24 H
          obtain ⟨b24, rfl, H⟩ := H.ptr (j := 0) rfl
          show JL _ _ _ _ _ _ _
          refine JL.nil ?_
          ((repeat refine Ex.normal_block ?_); refine Ex.next ?_)
          ((repeat refine JC.seq ?_); refine JC.region ?_)
          refine JL.fieldAddr rfl Try.underlying88 rfl sh52 rfl ?_
          refine JL.loadB 12 H rfl sh52 rfl rfl rfl ?_
          refine JL.loadB 5 H rfl sh90 rfl rfl rfl ?_
          refine JL.fieldAddr rfl Try.underlying23 rfl sh3 rfl ?_
          refine JL.loadB 0 H rfl sh3 rfl rfl rfl ?_
          refine JL.fieldAddr rfl Try.underlying23 rfl sh3 rfl ?_
          refine JL.loadB 1 H rfl sh3 rfl rfl rfl ?_
          refine JL.fieldAddr rfl Try.underlying157 rfl sh153 rfl ?_
          refine JL.loadB 10 H rfl sh153 rfl rfl rfl ?_
          refine JL.convI rfl Try.underlying153 Try.underlying3 (by unfold In64; omega) rfl ?_
          refine JL.arith rfl (show In64 (mx * way) by unfold In64; omega) rfl ?_
          refine JL.quo rfl rfl (by decide) rfl ?_
          refine JL.re 169 rfl (v' := .int .i64 (wayI mx way)) (by rw [hv1]) ?_
          refine JL.arith rfl (by unfold In64; omega) rfl ?_
          refine JL.fieldAddr rfl Try.underlying23 rfl sh3 rfl ?_
          refine JL.loadB 0 H rfl sh3 rfl rfl rfl ?_
          refine JL.fieldAddr rfl Try.underlying23 rfl sh3 rfl ?_
          refine JL.loadB 1 H rfl sh3 rfl rfl rfl ?_
          refine JL.fieldAddr rfl Try.underlying157 rfl sh153 rfl ?_
          refine JL.loadB 10 H rfl sh153 rfl rfl rfl ?_
          refine JL.convI rfl Try.underlying153 Try.underlying3 (by unfold In64; omega) rfl ?_
          refine JL.arith rfl (show In64 (my * way) by unfold In64; omega) rfl ?_
          refine JL.quo rfl rfl (by decide) rfl ?_
          refine JL.re 179 rfl (v' := .int .i64 (wayI my way)) (by rw [hv2]) ?_
          refine JL.arith rfl (by unfold In64; omega) rfl ?_
          refine JL.build s23 rfl rfl ?_
          refine JL.callP H fb102 rfl rfl (lands102_c g _ _ _ _ _ (stepAllR g cu wi d ⟨t, l, r, b, off⟩ sec).1.l (stepAllR g cu wi d ⟨t, l, r, b, off⟩ sec).1.r (stepAllR g cu wi d ⟨t, l, r, b, off⟩ sec).1.b (stepAllR g cu wi d ⟨t, l, r, b, off⟩ sec).1.off _ _ _ [] _ hgok (hl.grow H.below) (runSl H (j := 6) rfl (Nat.le_trans hfn.1.2 (by decide))) (runSl H (j := 7) rfl (Nat.le_trans hfn.2.1.2 (by decide))) (runSl H (j := 8) rfl (Nat.le_trans hfn.2.2.2 (by decide))) (nilSl _) (by simp) (by unfold In64; omega) (by unfold In64; omega)) ?_
          intro w19 H _
          refine JL.re 182 rfl (v' := .bool true) (congrArg Value.bool hland.1) ?_
          refine JL.pure rfl rfl ?_
          refine JL.re 183 rfl (v' := .bool false) (rfl) ?_
          refine JL.nil ?_
          ((repeat refine Ex.normal_block ?_); refine Ex.next ?_)
          ((repeat refine JC.seq ?_); refine JC.cond rfl (fun h => by cases h) (fun _ => ?_))
          ((repeat refine JC.seq ?_); refine JC.skip ?_)
          ((repeat refine Ex.normal_block ?_); refine Ex.next ?_)
          ((repeat refine JC.seq ?_); refine JC.region ?_)
          refine JL.pure rfl rfl ?_
          refine JL.indexA 0 rfl rfl Try.underlying158 sh50 rfl (by decide) rfl ?_
          refine JL.loadB 4 H rfl sh50 rfl rfl rfl ?_
          refine JL.buildSlice H Try.underlying134 sh50 z50 rfl rfl rfl rfl rfl ?_
          intro b187 w20 H
          replace H := H.blkRow (j := 0) (enc := fun p : Value × List Run => [p.1]) rfl [(.slice x2a (stepAllR g cu wi d ⟨t, l, r, b, off⟩ sec).1.l.length y2a, (stepAllR g cu wi d ⟨t, l, r, b, off⟩ sec).1.l)] rfl (fun _ => rfl) (by simp)
          refine JL.pure rfl rfl ?_
          refine JL.nil ?_
          ((repeat refine Ex.normal_block ?_); refine Ex.next ?_)
          ((repeat refine JC.seq ?_); refine JC.region ?_)
          refine JL.fieldAddr rfl Try.underlying88 rfl sh86 rfl ?_
          refine JL.fieldAddr rfl Try.underlying86 rfl sh4 rfl ?_
          refine JL.loadB 13 H rfl sh4 rfl rfl rfl ?_
          refine JL.nil ?_
          ((repeat refine Ex.normal_block ?_); refine Ex.next ?_)
          ((repeat refine JC.seq ?_); refine JC.cond rfl ?_ ?_)
          · intro h190
            (try simp only [Bool.not_eq_true', Bool.not_eq_false', decide_eq_true_eq, decide_eq_false_iff_not] at h190)
            
            ((repeat refine JC.seq ?_); refine JC.region ?_)
            refine JL.pure rfl rfl ?_
            refine JL.pure rfl rfl ?_
            refine JL.arith rfl (by unfold In64; omega) rfl ?_
            refine JL.indexA 1 rfl rfl Try.underlying158 sh50 rfl (by decide) rfl ?_
            refine JL.loadB 5 H rfl sh50 rfl rfl rfl ?_
            refine JL.buildSlice H Try.underlying134 sh50 z50 rfl rfl rfl rfl rfl ?_
            intro b196 w21 H
            refine JL.append1 (news := [.slice x2b (stepAllR g cu wi d ⟨t, l, r, b, off⟩ sec).1.r.length y2b]) 1 0 H Try.underlying134 ap50 rfl rfl rfl rfl rfl rfl (by simp) (by simp) rfl ?_
            intro v197 w22 H
            refine JL.pure rfl rfl ?_
            refine JL.nil ?_
            ((repeat refine Ex.normal_block ?_); refine Ex.next ?_)
            ((repeat refine JC.seq ?_); refine JC.region ?_)
            refine JL.pure rfl rfl ?_
            refine JL.pure rfl rfl ?_
            refine JL.re 199 rfl (v' := .bool true) (rfl) ?_
            refine JL.want rfl rfl ?_
            refine JL.fieldAddr rfl Try.underlying90 rfl sh3 rfl ?_
            refine JL.want rfl rfl ?_
            refine JL.loadB 7 H rfl sh3 rfl rfl rfl ?_
            refine JL.want rfl rfl ?_
            refine JL.fieldAddr rfl Try.underlying90 rfl sh3 rfl ?_
            refine JL.want rfl rfl ?_
            refine JL.loadB 13 H rfl sh3 rfl rfl rfl ?_
            refine JL.want rfl rfl ?_
            refine JL.pure rfl rfl ?_
            refine JL.want rfl rfl ?_
            refine JL.arith rfl (by unfold In64; omega) rfl ?_
            refine JL.want rfl rfl ?_
            refine JL.pure rfl rfl ?_
            refine JL.re 206 rfl (v' := .bool true) (congrArg Value.bool (decide_eq_true hqt)) ?_
            refine JL.pure rfl rfl ?_
            refine JL.pure rfl rfl ?_
            refine JL.re 208 rfl (v' := .bool true) (rfl) ?_
            refine JL.want rfl rfl ?_
            refine JL.fieldAddr rfl Try.underlying88 rfl sh52 rfl ?_
            refine JL.want rfl rfl ?_
            refine JL.loadB 14 H rfl sh52 rfl rfl rfl ?_
            refine JL.want rfl rfl ?_
            refine JL.loadB 7 H rfl sh90 rfl rfl rfl ?_
            refine JL.want rfl rfl ?_
            refine JL.fieldAddr rfl Try.underlying23 rfl sh3 rfl ?_
            refine JL.want rfl rfl ?_
            refine JL.loadB 2 H rfl sh3 rfl rfl rfl ?_
            refine JL.want rfl rfl ?_
            refine JL.fieldAddr rfl Try.underlying23 rfl sh3 rfl ?_
            refine JL.want rfl rfl ?_
            refine JL.loadB 3 H rfl sh3 rfl rfl rfl ?_
            refine JL.want rfl rfl ?_
            refine JL.arith rfl (by unfold In64; omega) rfl ?_
            refine JL.want rfl rfl ?_
            refine JL.fieldAddr rfl Try.underlying23 rfl sh3 rfl ?_
            refine JL.want rfl rfl ?_
            refine JL.loadB 2 H rfl sh3 rfl rfl rfl ?_
            refine JL.want rfl rfl ?_
            refine JL.fieldAddr rfl Try.underlying23 rfl sh3 rfl ?_
            refine JL.want rfl rfl ?_
            refine JL.loadB 3 H rfl sh3 rfl rfl rfl ?_
            refine JL.want rfl rfl ?_
            refine JL.arith rfl (by unfold In64; omega) rfl ?_
            refine JL.want rfl rfl ?_
            refine JL.build s23 rfl rfl ?_
            refine JL.want rfl rfl ?_
            refine JL.pure rfl rfl ?_
            refine JL.want rfl rfl ?_
            refine JL.callP H fb102 rfl rfl (lands102_c g _ _ _ _ _ (stepAllR g cu wi d ⟨t, l, r, b, off⟩ sec).1.l (stepAllR g cu wi d ⟨t, l, r, b, off⟩ sec).1.r (stepAllR g cu wi d ⟨t, l, r, b, off⟩ sec).1.b (stepAllR g cu wi d ⟨t, l, r, b, off⟩ sec).1.off _ _ _ [(.slice x2a (stepAllR g cu wi d ⟨t, l, r, b, off⟩ sec).1.l.length y2a, (stepAllR g cu wi d ⟨t, l, r, b, off⟩ sec).1.l), (.slice x2b (stepAllR g cu wi d ⟨t, l, r, b, off⟩ sec).1.r.length y2b, (stepAllR g cu wi d ⟨t, l, r, b, off⟩ sec).1.r)] _ hgok (hl.grow H.below) (runSl H (j := 8) rfl (Nat.le_trans hfn.1.2 (by decide))) (runSl H (j := 9) rfl (Nat.le_trans hfn.2.1.2 (by decide))) (runSl H (j := 10) rfl (Nat.le_trans hfn.2.2.2 (by decide))) (H.rowSl1 (j := 1) (e := 50) (ev := Prod.fst) (l := [(.slice x2a (stepAllR g cu wi d ⟨t, l, r, b, off⟩ sec).1.l.length y2a, (stepAllR g cu wi d ⟨t, l, r, b, off⟩ sec).1.l), (.slice x2b (stepAllR g cu wi d ⟨t, l, r, b, off⟩ sec).1.r.length y2b, (stepAllR g cu wi d ⟨t, l, r, b, off⟩ sec).1.r)]) rfl (by simp)) (fun p9 hp9 => by
              simp only [List.mem_cons, List.not_mem_nil, or_false] at hp9
              rcases hp9 with rfl | rfl
              · exact (runSl H (j := 8) rfl (Nat.le_trans hfn.1.2 (by decide)))
              · exact (runSl H (j := 9) rfl (Nat.le_trans hfn.2.1.2 (by decide)))) (by unfold In64; omega) (by unfold In64; omega)) ?_
            intro w23 H _
            refine JL.re 224 rfl (v' := .bool true) (congrArg Value.bool (by have := hland.2; rw [if_pos h190] at this; exact this)) ?_
            refine JL.pure rfl rfl ?_
            refine JL.pure rfl rfl ?_
            refine JL.nil ?_
            ((repeat refine Ex.normal_block ?_); refine Ex.next ?_)
            ((repeat refine JC.seq ?_); refine JC.ret ?_)
            (repeat (first | refine Ex.ret_then ?_ | refine Ex.ret_block ?_))
            refine Ex.ret1 rfl (.tmp rfl) ⟨rfl, H.below⟩
          · intro h190
            (try simp only [Bool.not_eq_true', Bool.not_eq_false', decide_eq_true_eq, decide_eq_false_iff_not] at h190)
            have h190 : ¬ d.jibes = true := by simpa using h190
            ((repeat refine JC.seq ?_); refine JC.skip ?_)
            ((repeat refine Ex.normal_block ?_); refine Ex.next ?_)
            ((repeat refine JC.seq ?_); refine JC.region ?_)
            refine JL.pure rfl rfl ?_
            refine JL.pure rfl rfl ?_
            refine JL.re 199 rfl (v' := .bool true) (rfl) ?_
            refine JL.want rfl rfl ?_
            refine JL.fieldAddr rfl Try.underlying90 rfl sh3 rfl ?_
            refine JL.want rfl rfl ?_
            refine JL.loadB 6 H rfl sh3 rfl rfl rfl ?_
            refine JL.want rfl rfl ?_
            refine JL.fieldAddr rfl Try.underlying90 rfl sh3 rfl ?_
            refine JL.want rfl rfl ?_
            refine JL.loadB 12 H rfl sh3 rfl rfl rfl ?_
            refine JL.want rfl rfl ?_
            refine JL.pure rfl rfl ?_
            refine JL.want rfl rfl ?_
            refine JL.arith rfl (by unfold In64; omega) rfl ?_
            refine JL.want rfl rfl ?_
            refine JL.pure rfl rfl ?_
            refine JL.re 206 rfl (v' := .bool true) (congrArg Value.bool (decide_eq_true hqt)) ?_
            refine JL.pure rfl rfl ?_
            refine JL.pure rfl rfl ?_
            refine JL.re 208 rfl (v' := .bool true) (rfl) ?_
            refine JL.want rfl rfl ?_
            refine JL.fieldAddr rfl Try.underlying88 rfl sh52 rfl ?_
            refine JL.want rfl rfl ?_
            refine JL.loadB 13 H rfl sh52 rfl rfl rfl ?_
            refine JL.want rfl rfl ?_
            refine JL.loadB 6 H rfl sh90 rfl rfl rfl ?_
            refine JL.want rfl rfl ?_
            refine JL.fieldAddr rfl Try.underlying23 rfl sh3 rfl ?_
            refine JL.want rfl rfl ?_
            refine JL.loadB 1 H rfl sh3 rfl rfl rfl ?_
            refine JL.want rfl rfl ?_
            refine JL.fieldAddr rfl Try.underlying23 rfl sh3 rfl ?_
            refine JL.want rfl rfl ?_
            refine JL.loadB 2 H rfl sh3 rfl rfl rfl ?_
            refine JL.want rfl rfl ?_
            refine JL.arith rfl (by unfold In64; omega) rfl ?_
            refine JL.want rfl rfl ?_
            refine JL.fieldAddr rfl Try.underlying23 rfl sh3 rfl ?_
            refine JL.want rfl rfl ?_
            refine JL.loadB 1 H rfl sh3 rfl rfl rfl ?_
            refine JL.want rfl rfl ?_
            refine JL.fieldAddr rfl Try.underlying23 rfl sh3 rfl ?_
            refine JL.want rfl rfl ?_
            refine JL.loadB 2 H rfl sh3 rfl rfl rfl ?_
            refine JL.want rfl rfl ?_
            refine JL.arith rfl (by unfold In64; omega) rfl ?_
            refine JL.want rfl rfl ?_
            refine JL.build s23 rfl rfl ?_
            refine JL.want rfl rfl ?_
            refine JL.pure rfl rfl ?_
            refine JL.want rfl rfl ?_
            refine JL.callP H fb102 rfl rfl (lands102_c g _ _ _ _ _ (stepAllR g cu wi d ⟨t, l, r, b, off⟩ sec).1.l (stepAllR g cu wi d ⟨t, l, r, b, off⟩ sec).1.r (stepAllR g cu wi d ⟨t, l, r, b, off⟩ sec).1.b (stepAllR g cu wi d ⟨t, l, r, b, off⟩ sec).1.off _ _ _ [(.slice x2a (stepAllR g cu wi d ⟨t, l, r, b, off⟩ sec).1.l.length y2a, (stepAllR g cu wi d ⟨t, l, r, b, off⟩ sec).1.l)] _ hgok (hl.grow H.below) (runSl H (j := 7) rfl (Nat.le_trans hfn.1.2 (by decide))) (runSl H (j := 8) rfl (Nat.le_trans hfn.2.1.2 (by decide))) (runSl H (j := 9) rfl (Nat.le_trans hfn.2.2.2 (by decide))) (H.rowSl1 (j := 0) (e := 50) (ev := Prod.fst) (l := [(.slice x2a (stepAllR g cu wi d ⟨t, l, r, b, off⟩ sec).1.l.length y2a, (stepAllR g cu wi d ⟨t, l, r, b, off⟩ sec).1.l)]) rfl (by simp)) (fun p9 hp9 => by
              simp only [List.mem_cons, List.not_mem_nil, or_false] at hp9
              subst hp9
              exact (runSl H (j := 7) rfl (Nat.le_trans hfn.1.2 (by decide)))) (by unfold In64; omega) (by unfold In64; omega)) ?_
            intro w24 H _
            refine JL.re 224 rfl (v' := .bool true) (congrArg Value.bool (by have := hland.2; rw [if_neg h190] at this; exact this)) ?_
            refine JL.pure rfl rfl ?_
            refine JL.pure rfl rfl ?_
            refine JL.nil ?_
            ((repeat refine Ex.normal_block ?_); refine Ex.next ?_)
            ((repeat refine JC.seq ?_); refine JC.ret ?_)
            (repeat (first | refine Ex.ret_then ?_ | refine Ex.ret_block ?_))
            refine Ex.ret1 rfl (.tmp rfl) ⟨rfl, H.below⟩
theorem keeps1_c (g : Grid) (lv cv wv : Value) (cu wi : List Flow) (d : Drifter) (t : Int) (lf rf bf : Value) (l r b : List Run) (off : Bool) (sec side part : Int) (x : Picks) (w : World) (hl : SlR w lv g.land) (hcl : capOK lv) (hc : FlowsIs w cv cu) (hw : FlowsIs w wv wi) (h1 : SlR w lf l) (h2 : SlR w rf r) (h3 : SlR w bf b)
    (c1 : capOK lf) (c2 : capOK rf) (c3 : capOK bf) (hsd : 0 ≤ side ∧ side ≤ 255) (hk : side % 2 = 1) (hpt : u16' part) (hx : x.ok) :
    Calls Try.prog 22 #[seaEv g lv cv wv d, Patch.ev ⟨t, lf, l, rf, r, bf, b, off⟩, .int .i64 sec, .int .u8 side, .int .u16 part, x.ev] w (fun e w' => e = .returned (.bool true) ∧ Below w.heap.size w w') := by
  obtain ⟨la, lc, rfl⟩ := hl.len
  obtain ⟨ca, cc, rfl⟩ := hc.1.len
  obtain ⟨wa, wc, rfl⟩ := hw.1.len
  obtain ⟨a1, d1, rfl⟩ := h1.len
  obtain ⟨a2, d2, rfl⟩ := h2.len
  obtain ⟨a3, d3, rfl⟩ := h3.len
  obtain ⟨px, py, cx, cy, wx, wy, down, cross, way, ux, uy⟩ := x
  have hx' := hx
  obtain ⟨⟨x1, x2⟩, ⟨x3, x4⟩, ⟨x5, x6⟩, x7, x8, x9⟩ := hx'
  simp only at x1 x2 x3 x4 x5 x6 x7 x8 x9
  refine calls_J (args := [.agg ⟨[.int .i64 g.W, .int .i64 g.H, .int .i64 g.S, .slice la g.land.length lc, .slice ca cu.length cc, .slice wa wi.length wc, .int .i64 d.dl, .int .i64 d.dh, .int .i64 d.cl, .int .i64 d.ch, .bool d.jibes]⟩, .agg ⟨[.int .i64 t, .slice a1 l.length d1, .slice a2 r.length d2, .slice a3 b.length d3, .bool off]⟩, .int .i64 sec, .int .u8 side, .int .u16 part, .agg ⟨[.int .u16 px, .int .u16 py, .int .u16 cx, .int .u16 cy, .int .u16 wx, .int .u16 wy, .int .u16 down, .int .u16 cross, .int .u16 way, .bool ux, .bool uy]⟩]) Try.func22 rfl Try.ntmps22 rfl ?_
  have H := Own.start w
  ((repeat refine JC.seq ?_); refine JC.region ?_)
  refine JL.box H rfl rfl rfl ?_
  intro b6 w1 H
  refine JL.box H rfl rfl rfl ?_
  intro b7 w2 H
  refine JL.box H rfl rfl rfl ?_
  intro b11 w3 H
  refine JL.pure rfl rfl ?_
  refine JL.nil ?_
  ((repeat refine Ex.normal_block ?_); refine Ex.next ?_)
  ((repeat refine JC.seq ?_); refine JC.region ?_)
  refine JL.callP H fb60 rfl rfl (alive60_c _) ?_
  intro w4 H _
  refine JL.pure rfl rfl ?_
  refine JL.nil ?_
  ((repeat refine Ex.normal_block ?_); refine Ex.next ?_)
  ((repeat refine JC.seq ?_); refine JC.region ?_)
  refine JL.fieldAddr rfl Try.underlying88 rfl sh52 rfl ?_
  refine JL.loadB 2 H rfl sh52 rfl rfl rfl ?_
  refine JL.fieldAddr rfl Try.underlying88 rfl sh84 rfl ?_
  refine JL.loadB 2 H rfl sh84 rfl rfl rfl ?_
  refine JL.loadB 1 H rfl sh90 rfl rfl rfl ?_
  refine JL.buildSlice H Try.underlying216 sh90 z90 rfl rfl rfl rfl rfl ?_
  intro b32 w5 H
  refine JL.call fb61 rfl rfl (great04_c g _ 200 _ _ _ cu wi [⟨t, _, l, _, r, _, b, off⟩] _ (hl.grow H.below) (hc.grow H.below) (hw.grow H.below) (H.blkSl (j := 0) (enc := Patch.cs) rfl [⟨t, .slice a1 l.length d1, l, .slice a2 r.length d2, r, .slice a3 b.length d3, b, off⟩] rfl (fun _ => rfl) (by simp)) (fun p9 hp9 => by
    simp only [List.mem_singleton] at hp9
    subst hp9
    exact ⟨h1.grow H.below, h2.grow H.below, h3.grow H.below⟩)) ?_
  rintro _ w6 ⟨gb, rfl, hgb, K⟩
  have H := H.grow K
  refine ⟨_, rfl, ?_⟩
  refine JL.pure rfl rfl ?_
  refine JL.cases 34 rfl ?_ ?_
  · intro h34
    (try simp only [Bool.not_eq_true', Bool.not_eq_false', decide_eq_true_eq, decide_eq_false_iff_not] at h34)
    refine JL.pass rfl rfl rfl rfl ?_
    refine JL.pass rfl rfl rfl rfl ?_
    refine JL.pure rfl rfl ?_
    refine JL.nil ?_
    ((repeat refine Ex.normal_block ?_); refine Ex.next ?_)
    ((repeat refine JC.seq ?_); refine JC.cond rfl (fun _ => ?_) (fun h => by cases h))
    ((repeat refine JC.seq ?_); refine JC.region ?_)
    refine JL.pure rfl rfl ?_
    refine JL.pure rfl rfl ?_
    refine JL.nil ?_
    ((repeat refine Ex.normal_block ?_); refine Ex.next ?_)
    ((repeat refine JC.seq ?_); refine JC.ret ?_)
    (repeat (first | refine Ex.ret_then ?_ | refine Ex.ret_block ?_))
    refine Ex.ret1 rfl (.tmp rfl) ⟨rfl, H.below⟩
  · intro h34
    (try simp only [Bool.not_eq_true', Bool.not_eq_false', decide_eq_true_eq, decide_eq_false_iff_not] at h34)
    refine JL.want rfl rfl ?_
    refine JL.pure rfl rfl ?_
    refine JL.want rfl rfl ?_
    refine JL.pure rfl rfl ?_
    refine JL.pure rfl rfl ?_
    refine JL.nil ?_
    ((repeat refine Ex.normal_block ?_); refine Ex.next ?_)
    ((repeat refine JC.seq ?_); refine JC.cond rfl ?_ ?_)
    · intro h37
      (try simp only [Bool.not_eq_true', Bool.not_eq_false', decide_eq_true_eq, decide_eq_false_iff_not] at h37)
      ((repeat refine JC.seq ?_); refine JC.region ?_)
      refine JL.pure rfl rfl ?_
      refine JL.pure rfl rfl ?_
      refine JL.nil ?_
      ((repeat refine Ex.normal_block ?_); refine Ex.next ?_)
      ((repeat refine JC.seq ?_); refine JC.ret ?_)
      (repeat (first | refine Ex.ret_then ?_ | refine Ex.ret_block ?_))
      refine Ex.ret1 rfl (.tmp rfl) ⟨rfl, H.below⟩
    · intro h37
      (try simp only [Bool.not_eq_true', Bool.not_eq_false', decide_eq_true_eq, decide_eq_false_iff_not] at h37)
      ((repeat refine JC.seq ?_); refine JC.skip ?_)
      ((repeat refine Ex.normal_block ?_); refine Ex.next ?_)
      ((repeat refine JC.seq ?_); refine JC.region ?_)
      refine JL.fieldAddr rfl Try.underlying88 rfl sh52 rfl ?_
      refine JL.loadB 3 H rfl sh52 rfl rfl rfl ?_
      refine JL.fieldAddr rfl Try.underlying88 rfl sh84 rfl ?_
      refine JL.loadB 3 H rfl sh84 rfl rfl rfl ?_
      refine JL.fieldAddr rfl Try.underlying88 rfl sh86 rfl ?_
      refine JL.loadB 3 H rfl sh86 rfl rfl rfl ?_
      refine JL.loadB 2 H rfl sh90 rfl rfl rfl ?_
      refine JL.pure rfl rfl ?_
      have hsm : g.ok = true → g.W * g.H ≤ 4096 := by
        have hg9 := hgb (by simp_all)
        have := (great_small hg9).1
        intro hok; have := this hok; omega
      refine JL.call fb64 rfl rfl (step64_c g _ _ _ cu wi d t _ _ _ l r b off sec _ (hl.grow H.below) hcl (hc.grow H.below) (hw.grow H.below) (h1.grow H.below) (h2.grow H.below) (h3.grow H.below) c1 c2 c3 hsm) ?_
      rintro _ w7 ⟨va, vb, vc, rfl, K⟩
      obtain ⟨x2a, y2a, rfl⟩ := K.row_slice (j := 0) rfl
      obtain ⟨x2b, y2b, rfl⟩ := K.row_slice (j := 1) rfl
      obtain ⟨x2c, y2c, rfl⟩ := K.row_slice (j := 2) rfl
      have H := H.join K
      refine ⟨_, rfl, ?_⟩
      refine JL.pure rfl rfl ?_
      refine JL.pure rfl rfl ?_
      refine JL.pure rfl rfl ?_
      refine JL.alloc H z90 rfl ?_
      intro b14 w8 H
      refine JL.storeB 0 H rfl rfl sh90 rfl rfl rfl rfl rfl ?_
      intro w9 H
      refine JL.pure rfl rfl ?_
      refine JL.nil ?_
      ((repeat refine Ex.normal_block ?_); refine Ex.next ?_)
      ((repeat refine JC.seq ?_); refine JC.region ?_)
      refine JL.pure rfl rfl ?_
      refine JL.pure rfl rfl ?_
      refine JL.nil ?_
      ((repeat refine Ex.normal_block ?_); refine Ex.next ?_)
      ((repeat refine JC.seq ?_); refine JC.cond rfl ?_ ?_)
      · intro h52
        (try simp only [Bool.not_eq_true', Bool.not_eq_false', decide_eq_true_eq, decide_eq_false_iff_not] at h52)
        have he : (stepAllR g cu wi d ⟨t, l, r, b, off⟩ sec).1 = zQP := step_err (by simpa using h52)
        ((repeat refine JC.seq ?_); refine JC.region ?_)
        refine JL.pure rfl rfl ?_
        refine JL.pure rfl rfl ?_
        refine JL.re 54 rfl (v' := .bool true) (rfl) ?_
        refine JL.want rfl rfl ?_
        refine JL.fieldAddr rfl Try.underlying90 rfl sh3 rfl ?_
        refine JL.want rfl rfl ?_
        refine JL.loadB 0 H rfl sh3 rfl rfl rfl ?_
        refine JL.want rfl rfl ?_
        refine JL.pure rfl rfl ?_
        refine JL.re 57 rfl (v' := .bool true) (congrArg Value.bool (decide_eq_true (by rw [he]; rfl))) ?_
        refine JL.pure rfl rfl ?_
        refine JL.pure rfl rfl ?_
        refine JL.re 59 rfl (v' := .bool true) (rfl) ?_
        refine JL.want rfl rfl ?_
        refine JL.fieldAddr rfl Try.underlying90 rfl sh50 rfl ?_
        refine JL.want rfl rfl ?_
        refine JL.loadB 0 H rfl sh50 rfl rfl rfl ?_
        refine JL.want rfl rfl ?_
        refine JL.len rfl Try.underlying50 rfl ?_
        refine JL.want rfl rfl ?_
        refine JL.pure rfl rfl ?_
        refine JL.re 63 rfl (v' := .bool true) (congrArg Value.bool (decide_eq_true (by rw [he]; rfl))) ?_
        refine JL.pure rfl rfl ?_
        refine JL.pure rfl rfl ?_
        refine JL.nil ?_
        ((repeat refine Ex.normal_block ?_); refine Ex.next ?_)
        ((repeat refine JC.seq ?_); refine JC.ret ?_)
        (repeat (first | refine Ex.ret_then ?_ | refine Ex.ret_block ?_))
        refine Ex.ret1 rfl (.tmp rfl) ⟨rfl, H.below⟩
      · intro h52
        (try simp only [Bool.not_eq_true', Bool.not_eq_false', decide_eq_true_eq, decide_eq_false_iff_not] at h52)
        have hz2 : (stepAllR g cu wi d ⟨t, l, r, b, off⟩ sec).2 = 0 := by simpa using h52
        have hin := step_in hsm hz2
        have hfn := step_fine hsm cu wi d ⟨t, l, r, b, off⟩ sec
        obtain ⟨⟨hgok, hsea, _⟩, hqt, ⟨hrl, hrr⟩, hpb, hkey⟩ := keeps_law hsm (q := (stepAllR g cu wi d ⟨t, l, r, b, off⟩ sec).1) (Prod.ext rfl hz2)
        (try simp only at hqt)
        (try simp only at hrl)
        (try simp only at hrr)
        (try simp only at hpb)
        (try simp only at hkey)
        (try simp only at hin)
        obtain ⟨hW, hH, hS, _⟩ := Grid.ok_b hgok
        have hck : (cellsR g r).2 = 0 := by unfold cellsR; rw [checked_one hgok hrr]; rfl
        ((repeat refine JC.seq ?_); refine JC.skip ?_)
        ((repeat refine Ex.normal_block ?_); refine Ex.next ?_)
        ((repeat refine JC.seq ?_); refine JC.region ?_)
        refine JL.pure rfl rfl ?_
        refine JL.convI rfl Try.underlying5 Try.underlying3 (by unfold In64; omega) rfl ?_
        refine JL.remP rfl rfl (by omega) (by decide) rfl ?_
        refine JL.re 67 rfl (v' := .int .i64 1) (by rw [hk]) ?_
        refine JL.pure rfl rfl ?_
        refine JL.nil ?_
        ((repeat refine Ex.normal_block ?_); refine Ex.next ?_)
        ((repeat refine JC.seq ?_); refine JC.draw 15 H mixed (by kernel_rfl) rfl ?_)
        refine JD.fieldAddr rfl Try.underlying90 rfl sh50 rfl ?_
        refine JD.loadB 6 rfl sh50 rfl rfl rfl ?_
        refine JD.fieldAddr rfl Try.underlying90 rfl sh50 rfl ?_
        refine JD.loadB 6 rfl sh50 rfl rfl rfl ?_
        refine JD.buildA Try.underlying158 sh50 za158 rfl rfl ?_
        refine JD.pure rfl rfl ?_
        refine JD.index1 1 rfl rfl Try.underlying158 sh50 rfl (by decide) rfl rfl ?_
        refine JD.fieldAddr rfl Try.underlying90 rfl sh50 rfl ?_
        refine JD.loadB 0 rfl sh50 rfl rfl rfl ?_
        refine JD.fieldAddr rfl Try.underlying90 rfl sh50 rfl ?_
        refine JD.loadB 0 rfl sh50 rfl rfl rfl ?_
        refine JD.buildA Try.underlying158 sh50 za158 rfl rfl ?_
        refine JD.allocS 14 (.tmp 79) z158 rfl rfl ?_
        refine JD.pure rfl rfl ?_
        refine JD.storeF rfl rfl rfl sh158 rfl rfl rfl ?_
        refine JD.nil ?_
        intro w10 v18 H
        obtain ⟨b18, rfl, H⟩ := H.ptr (j := 0) rfl
        show JL _ _ _ _ _ _ _
        refine JL.nil ?_
        ((repeat refine Ex.normal_block ?_); refine Ex.next ?_)
        ((repeat refine JC.seq ?_); refine JC.region ?_)
        refine JL.fieldAddr rfl Try.underlying88 rfl sh52 rfl ?_
        refine JL.loadB 8 H rfl sh52 rfl rfl rfl ?_
        refine JL.pure rfl rfl ?_
        refine JL.call fb49 rfl rfl (cells49_c g _ _ r _ (hl.grow H.below) (h2.grow H.below)) ?_
        rintro _ w11 ⟨cv9, rfl, K⟩
        obtain ⟨ca9, cc9, rfl⟩ := K.row_slice (j := 0) rfl
        have H := H.join K
        refine ⟨_, rfl, ?_⟩
        refine JL.pure rfl rfl ?_
        refine JL.pure rfl rfl ?_
        refine JL.pure rfl rfl ?_
        refine JL.pure rfl rfl ?_
        refine JL.pure rfl rfl ?_
        refine JL.nil ?_
        ((repeat refine Ex.normal_block ?_); refine Ex.next ?_)
        ((repeat refine JC.seq ?_); refine JC.region ?_)
        refine JL.pure rfl rfl ?_
        refine JL.pure rfl rfl ?_
        refine JL.re 88 rfl (v' := .bool false) (congrArg Value.bool (by rw [hck]; rfl)) ?_
        refine JL.pure rfl rfl ?_
        refine JL.want rfl rfl ?_
        refine JL.pure rfl rfl ?_
        refine JL.want rfl rfl ?_
        refine JL.len rfl Try.underlying68 rfl ?_
        refine JL.want rfl rfl ?_
        refine JL.pure rfl rfl ?_
        refine JL.pure rfl rfl ?_
        refine JL.nil ?_
        ((repeat refine Ex.normal_block ?_); refine Ex.next ?_)
        ((repeat refine JC.seq ?_); refine JC.cond rfl ?_ ?_)
        · intro h93
          (try simp only [Bool.not_eq_true', Bool.not_eq_false', decide_eq_true_eq, decide_eq_false_iff_not] at h93)
          
          ((repeat refine JC.seq ?_); refine JC.region ?_)
          refine JL.pure rfl rfl ?_
          refine JL.pure rfl rfl ?_
          refine JL.re 95 rfl (v' := .bool true) (rfl) ?_
          refine JL.want rfl rfl ?_
          refine JL.pure rfl rfl ?_
          refine JL.want rfl rfl ?_
          refine JL.pure rfl rfl ?_
          refine JL.re 97 rfl (v' := .bool true) (congrArg Value.bool (decide_eq_true hck)) ?_
          refine JL.pure rfl rfl ?_
          refine JL.pure rfl rfl ?_
          refine JL.re 99 rfl (v' := .bool true) (rfl) ?_
          refine JL.want rfl rfl ?_
          refine JL.fieldAddr rfl Try.underlying90 rfl sh50 rfl ?_
          refine JL.want rfl rfl ?_
          refine JL.loadB 8 H rfl sh50 rfl rfl rfl ?_
          refine JL.want rfl rfl ?_
          refine JL.fieldAddr rfl Try.underlying90 rfl sh50 rfl ?_
          refine JL.want rfl rfl ?_
          refine JL.loadB 2 H rfl sh50 rfl rfl rfl ?_
          refine JL.want rfl rfl ?_
          refine JL.callP H fb44 rfl rfl (part_c _ _ b (stepAllR g cu wi d ⟨t, l, r, b, off⟩ sec).1.b _ (h3.grow H.below) (runSl H (j := 5) rfl (Nat.le_trans hfn.2.2.2 (by decide))) hin.2.2.1 hfn.2.2.1) ?_
          intro w12 H _
          refine JL.re 104 rfl (v' := .bool true) (congrArg Value.bool hpb) ?_
          refine JL.pure rfl rfl ?_
          refine JL.pure rfl rfl ?_
          refine JL.nil ?_
          ((repeat refine Ex.normal_block ?_); refine Ex.next ?_)
          ((repeat refine JC.seq ?_); refine JC.ret ?_)
          (repeat (first | refine Ex.ret_then ?_ | refine Ex.ret_block ?_))
          refine Ex.ret1 rfl (.tmp rfl) ⟨rfl, H.below⟩
        · intro h93
          (try simp only [Bool.not_eq_true', Bool.not_eq_false', decide_eq_true_eq, decide_eq_false_iff_not] at h93)
          have hn9 : 0 < (cellsR g r).1.length := by
            (try simp only [decide_eq_false_iff_not] at h93)
            omega
          obtain ⟨ix, hix, hix2⟩ : ∃ ix : Nat, part % ((cellsR g r).1.length : Int) = ix ∧ ix < (cellsR g r).1.length := by
            have e1 := Int.emod_nonneg part (b := ((cellsR g r).1.length : Int)) (by omega)
            have e2 := Int.emod_lt_of_pos part (b := ((cellsR g r).1.length : Int)) (by omega)
            exact ⟨(part % ((cellsR g r).1.length : Int)).toNat, by omega, by omega⟩
          have hcx9 : (cellsR g r).1[ix]? = some (cellsR g r).1[ix] := by simp [hix2]
          have hcm := (cellsR_mem (List.getElem_mem hix2)).2
          obtain ⟨c, hce⟩ : ∃ c, (cellsR g r).1[ix] = c := ⟨_, rfl⟩
          rw [hce] at hcx9 hcm
          have hcb := hkey 1 (by simp) c hcm
          have hcg := canon_inG (canon_of_right hrr) hcm
          unfold inG at hcg
          obtain ⟨G9, hG9⟩ : ∃ G, G = goneR cu wi d c 1 t sec cx cy wx wy down cross ux uy := ⟨_, rfl⟩
          have hgi := gone_in (c := c) (time := t) (ux := ux) (uy := uy) hsea (show (1 : Int) = 0 ∨ (1 : Int) = 1 by simp) hcb.1 x3 x4 x5 x6 x7 x8
          have hgd := gone_bd (c := c) (side := 1) (time := t) (ux := ux) (uy := uy) hsea x3 x4 x5 x6 x7 x8
          rw [← hG9] at hgi hgd
          obtain ⟨⟨mx, my⟩, gok⟩ := G9
          obtain ⟨hgk, hhas⟩ := hgi
          simp only at hgk hhas hgd
          subst hgk
          have hs1 := Int.emod_nonneg px (b := g.S) (by omega)
          have hs2 := Int.emod_lt_of_pos px (b := g.S) (by omega)
          have hs3 := Int.emod_nonneg py (b := g.S) (by omega)
          have hs4 := Int.emod_lt_of_pos py (b := g.S) (by omega)
          have hm1 := mul_bd (M := 0) (show 0 ≤ c.X by omega) (show c.X ≤ 256 by omega) (show 0 ≤ g.S by omega) hS.2
          have hm2 := mul_bd (M := 0) (show 0 ≤ c.Y by omega) (show c.Y ≤ 256 by omega) (show 0 ≤ g.S by omega) hS.2
          have hland := hcb.2 ⟨mx, my⟩ hhas (c.X * g.S + px % g.S) (c.Y * g.S + py % g.S) way x9 (by omega) (by omega)
          have w1 := wayI_bd (m := mx) x9
          have w2 := wayI_bd (m := my) x9
          have hp16 : 0 ≤ way ∧ way ≤ 65535 := x9
          have hq1 := mul_bd2 (a := mx) (b := way) (A := 13000000) (B := 65535) (by omega) (by omega) (by omega) (by omega)
          have hq2 := mul_bd2 (a := my) (b := way) (A := 13000000) (B := 65535) (by omega) (by omega) (by omega) (by omega)
          have hv1 : w64 ((mx * way).tdiv 65536) = wayI mx way := w64_id (by unfold In64; unfold wayI at w1; omega)
          have hv2 : w64 ((my * way).tdiv 65536) = wayI my way := w64_id (by unfold In64; unfold wayI at w2; omega)
          ((repeat refine JC.seq ?_); refine JC.skip ?_)
          ((repeat refine Ex.normal_block ?_); refine Ex.next ?_)
          ((repeat refine JC.seq ?_); refine JC.region ?_)
          refine JL.pure rfl rfl ?_
          refine JL.pure rfl rfl ?_
          refine JL.convI rfl Try.underlying153 Try.underlying3 (by unfold u16' at hpt; unfold In64; omega) rfl ?_
          refine JL.pure rfl rfl ?_
          refine JL.len rfl Try.underlying68 rfl ?_
          refine JL.remP rfl rfl (by unfold u16' at hpt; omega) (by omega) rfl ?_
          obtain ⟨gg9, cc8, hsl9, _⟩ := H.rowAt (j := 0) (enc := Cell.cs) (fun _ => rfl) rfl hcx9
          cases hsl9
          refine JL.indexS ix rfl rfl Try.underlying68 sh62 hix hix2 rfl ?_
          refine JL.load rfl sh62 (H.rowLd (j := 0) (e := 62) (sz := 2) (enc := Cell.cs) (fun _ => rfl) rfl hcx9) rfl ?_
          refine JL.alloc H z62 rfl ?_
          intro b21 w13 H
          refine JL.storeB 0 H rfl rfl sh62 rfl rfl rfl rfl rfl ?_
          intro w14 H
          refine JL.nil ?_
          ((repeat refine Ex.normal_block ?_); refine Ex.next ?_)
          ((repeat refine JC.seq ?_); refine JC.region ?_)
          refine JL.loadB 10 H rfl sh88 rfl rfl rfl ?_
          refine JL.loadB 0 H rfl sh62 rfl rfl rfl ?_
          refine JL.pure rfl rfl ?_
          refine JL.fieldAddr rfl Try.underlying90 rfl sh3 rfl ?_
          refine JL.loadB 9 H rfl sh3 rfl rfl rfl ?_
          refine JL.pure rfl rfl ?_
          refine JL.loadB 8 H rfl sh157 rfl rfl rfl ?_
          refine JL.callP H fb101 rfl rfl (show Pur Try.prog 101 _ _ (.tuple #[.agg ⟨[.int .i64 mx, .int .i64 my]⟩, .bool true]) by
            have := gone101_c g _ _ _ cu wi d c 1 t sec ⟨px, py, cx, cy, wx, wy, down, cross, way, ux, uy⟩ _ hsea hx (hc.grow H.below) (hw.grow H.below) (hl.grow H.below)
            rw [← hG9] at this
            exact this) ?_
          intro w15 H _
          refine JL.pure rfl rfl ?_
          refine JL.pure rfl rfl ?_
          refine JL.pure rfl rfl ?_
          refine JL.alloc H z23 rfl ?_
          intro b22 w16 H
          refine JL.storeB 0 H rfl rfl sh23 rfl rfl rfl rfl rfl ?_
          intro w17 H
          refine JL.pure rfl rfl ?_
          refine JL.nil ?_
          ((repeat refine Ex.normal_block ?_); refine Ex.next ?_)
          ((repeat refine JC.seq ?_); refine JC.region ?_)
          refine JL.pure rfl rfl ?_
          refine JL.pure rfl rfl ?_
          refine JL.re 126 rfl (v' := .bool false) (rfl) ?_
          refine JL.nil ?_
          ((repeat refine Ex.normal_block ?_); refine Ex.next ?_)
          ((repeat refine JC.seq ?_); refine JC.cond rfl (fun h => by cases h) (fun _ => ?_))
          ((repeat refine JC.seq ?_); refine JC.skip ?_)
          ((repeat refine Ex.normal_block ?_); refine Ex.next ?_)
          ((repeat refine JC.seq ?_); refine JC.draw 33 H mixed (by kernel_rfl) rfl ?_)
          refine JD.fieldAddr rfl Try.underlying62 rfl sh3 rfl ?_
          refine JD.loadB 1 rfl sh3 rfl rfl rfl ?_
          refine JD.fieldAddr rfl Try.underlying88 rfl sh52 rfl ?_
          refine JD.fieldAddr rfl Try.underlying52 rfl sh3 rfl ?_
          refine JD.loadB 11 rfl sh3 rfl rfl rfl ?_
          refine JD.arith rfl (show In64 (c.X * g.S) by unfold In64; omega) rfl ?_
          refine JD.fieldAddr rfl Try.underlying157 rfl sh154 rfl ?_
          refine JD.indexA 0 rfl rfl Try.underlying154 sh153 rfl (by decide) rfl ?_
          refine JD.loadB 9 rfl sh153 rfl rfl rfl ?_
          refine JD.convI rfl Try.underlying153 Try.underlying3 (by unfold u16 at x1; unfold In64; omega) rfl ?_
          refine JD.fieldAddr rfl Try.underlying88 rfl sh52 rfl ?_
          refine JD.fieldAddr rfl Try.underlying52 rfl sh3 rfl ?_
          refine JD.loadB 11 rfl sh3 rfl rfl rfl ?_
          refine JD.remP rfl rfl (by unfold u16 at x1; omega) hS.1 rfl ?_
          refine JD.arith rfl (by unfold In64; omega) rfl ?_
          refine JD.fieldAddr rfl Try.underlying62 rfl sh3 rfl ?_
          refine JD.loadB 1 rfl sh3 rfl rfl rfl ?_
          refine JD.fieldAddr rfl Try.underlying88 rfl sh52 rfl ?_
          refine JD.fieldAddr rfl Try.underlying52 rfl sh3 rfl ?_
          refine JD.loadB 11 rfl sh3 rfl rfl rfl ?_
          refine JD.arith rfl (show In64 (c.Y * g.S) by unfold In64; omega) rfl ?_
          refine JD.fieldAddr rfl Try.underlying157 rfl sh154 rfl ?_
          refine JD.indexA 1 rfl rfl Try.underlying154 sh153 rfl (by decide) rfl ?_
          refine JD.loadB 9 rfl sh153 rfl rfl rfl ?_
          refine JD.convI rfl Try.underlying153 Try.underlying3 (by unfold u16 at x2; unfold In64; omega) rfl ?_
          refine JD.fieldAddr rfl Try.underlying88 rfl sh52 rfl ?_
          refine JD.fieldAddr rfl Try.underlying52 rfl sh3 rfl ?_
          refine JD.loadB 11 rfl sh3 rfl rfl rfl ?_
          refine JD.remP rfl rfl (by unfold u16 at x2; omega) hS.1 rfl ?_
          refine JD.arith rfl (by unfold In64; omega) rfl ?_
          refine JD.build s23 rfl rfl ?_
          refine JD.allocS 32 (.tmp 157) z23 rfl rfl ?_
          refine JD.storeF rfl rfl rfl sh23 rfl rfl rfl ?_
          refine JD.nil ?_
          intro w18 v24 H
          obtain ⟨b24, rfl, H⟩ := H.ptr (j := 0) rfl
          show JL _ _ _ _ _ _ _
          refine JL.nil ?_
          ((repeat refine Ex.normal_block ?_); refine Ex.next ?_)
          ((repeat refine JC.seq ?_); refine JC.region ?_)
          refine JL.fieldAddr rfl Try.underlying88 rfl sh52 rfl ?_
          refine JL.loadB 12 H rfl sh52 rfl rfl rfl ?_
          refine JL.loadB 5 H rfl sh90 rfl rfl rfl ?_
          refine JL.fieldAddr rfl Try.underlying23 rfl sh3 rfl ?_
          refine JL.loadB 0 H rfl sh3 rfl rfl rfl ?_
          refine JL.fieldAddr rfl Try.underlying23 rfl sh3 rfl ?_
          refine JL.loadB 1 H rfl sh3 rfl rfl rfl ?_
          refine JL.fieldAddr rfl Try.underlying157 rfl sh153 rfl ?_
          refine JL.loadB 10 H rfl sh153 rfl rfl rfl ?_
          refine JL.convI rfl Try.underlying153 Try.underlying3 (by unfold In64; omega) rfl ?_
          refine JL.arith rfl (show In64 (mx * way) by unfold In64; omega) rfl ?_
          refine JL.quo rfl rfl (by decide) rfl ?_
          refine JL.re 169 rfl (v' := .int .i64 (wayI mx way)) (by rw [hv1]) ?_
          refine JL.arith rfl (by unfold In64; omega) rfl ?_
          refine JL.fieldAddr rfl Try.underlying23 rfl sh3 rfl ?_
          refine JL.loadB 0 H rfl sh3 rfl rfl rfl ?_
          refine JL.fieldAddr rfl Try.underlying23 rfl sh3 rfl ?_
          refine JL.loadB 1 H rfl sh3 rfl rfl rfl ?_
          refine JL.fieldAddr rfl Try.underlying157 rfl sh153 rfl ?_
          refine JL.loadB 10 H rfl sh153 rfl rfl rfl ?_
          refine JL.convI rfl Try.underlying153 Try.underlying3 (by unfold In64; omega) rfl ?_
          refine JL.arith rfl (show In64 (my * way) by unfold In64; omega) rfl ?_
          refine JL.quo rfl rfl (by decide) rfl ?_
          refine JL.re 179 rfl (v' := .int .i64 (wayI my way)) (by rw [hv2]) ?_
          refine JL.arith rfl (by unfold In64; omega) rfl ?_
          refine JL.build s23 rfl rfl ?_
          refine JL.callP H fb102 rfl rfl (lands102_c g _ _ _ _ _ (stepAllR g cu wi d ⟨t, l, r, b, off⟩ sec).1.l (stepAllR g cu wi d ⟨t, l, r, b, off⟩ sec).1.r (stepAllR g cu wi d ⟨t, l, r, b, off⟩ sec).1.b (stepAllR g cu wi d ⟨t, l, r, b, off⟩ sec).1.off _ _ _ [] _ hgok (hl.grow H.below) (runSl H (j := 6) rfl (Nat.le_trans hfn.1.2 (by decide))) (runSl H (j := 7) rfl (Nat.le_trans hfn.2.1.2 (by decide))) (runSl H (j := 8) rfl (Nat.le_trans hfn.2.2.2 (by decide))) (nilSl _) (by simp) (by unfold In64; omega) (by unfold In64; omega)) ?_
          intro w19 H _
          refine JL.re 182 rfl (v' := .bool true) (congrArg Value.bool hland.1) ?_
          refine JL.pure rfl rfl ?_
          refine JL.re 183 rfl (v' := .bool false) (rfl) ?_
          refine JL.nil ?_
          ((repeat refine Ex.normal_block ?_); refine Ex.next ?_)
          ((repeat refine JC.seq ?_); refine JC.cond rfl (fun h => by cases h) (fun _ => ?_))
          ((repeat refine JC.seq ?_); refine JC.skip ?_)
          ((repeat refine Ex.normal_block ?_); refine Ex.next ?_)
          ((repeat refine JC.seq ?_); refine JC.region ?_)
          refine JL.pure rfl rfl ?_
          refine JL.indexA 1 rfl rfl Try.underlying158 sh50 rfl (by decide) rfl ?_
          refine JL.loadB 4 H rfl sh50 rfl rfl rfl ?_
          refine JL.buildSlice H Try.underlying134 sh50 z50 rfl rfl rfl rfl rfl ?_
          intro b187 w20 H
          replace H := H.blkRow (j := 0) (enc := fun p : Value × List Run => [p.1]) rfl [(.slice x2b (stepAllR g cu wi d ⟨t, l, r, b, off⟩ sec).1.r.length y2b, (stepAllR g cu wi d ⟨t, l, r, b, off⟩ sec).1.r)] rfl (fun _ => rfl) (by simp)
          refine JL.pure rfl rfl ?_
          refine JL.nil ?_
          ((repeat refine Ex.normal_block ?_); refine Ex.next ?_)
          ((repeat refine JC.seq ?_); refine JC.region ?_)
          refine JL.fieldAddr rfl Try.underlying88 rfl sh86 rfl ?_
          refine JL.fieldAddr rfl Try.underlying86 rfl sh4 rfl ?_
          refine JL.loadB 13 H rfl sh4 rfl rfl rfl ?_
          refine JL.nil ?_
          ((repeat refine Ex.normal_block ?_); refine Ex.next ?_)
          ((repeat refine JC.seq ?_); refine JC.cond rfl ?_ ?_)
          · intro h190
            (try simp only [Bool.not_eq_true', Bool.not_eq_false', decide_eq_true_eq, decide_eq_false_iff_not] at h190)
            
            ((repeat refine JC.seq ?_); refine JC.region ?_)
            refine JL.pure rfl rfl ?_
            refine JL.pure rfl rfl ?_
            refine JL.arith rfl (by unfold In64; omega) rfl ?_
            refine JL.indexA 0 rfl rfl Try.underlying158 sh50 rfl (by decide) rfl ?_
            refine JL.loadB 5 H rfl sh50 rfl rfl rfl ?_
            refine JL.buildSlice H Try.underlying134 sh50 z50 rfl rfl rfl rfl rfl ?_
            intro b196 w21 H
            refine JL.append1 (news := [.slice x2a (stepAllR g cu wi d ⟨t, l, r, b, off⟩ sec).1.l.length y2a]) 1 0 H Try.underlying134 ap50 rfl rfl rfl rfl rfl rfl (by simp) (by simp) rfl ?_
            intro v197 w22 H
            refine JL.pure rfl rfl ?_
            refine JL.nil ?_
            ((repeat refine Ex.normal_block ?_); refine Ex.next ?_)
            ((repeat refine JC.seq ?_); refine JC.region ?_)
            refine JL.pure rfl rfl ?_
            refine JL.pure rfl rfl ?_
            refine JL.re 199 rfl (v' := .bool true) (rfl) ?_
            refine JL.want rfl rfl ?_
            refine JL.fieldAddr rfl Try.underlying90 rfl sh3 rfl ?_
            refine JL.want rfl rfl ?_
            refine JL.loadB 7 H rfl sh3 rfl rfl rfl ?_
            refine JL.want rfl rfl ?_
            refine JL.fieldAddr rfl Try.underlying90 rfl sh3 rfl ?_
            refine JL.want rfl rfl ?_
            refine JL.loadB 13 H rfl sh3 rfl rfl rfl ?_
            refine JL.want rfl rfl ?_
            refine JL.pure rfl rfl ?_
            refine JL.want rfl rfl ?_
            refine JL.arith rfl (by unfold In64; omega) rfl ?_
            refine JL.want rfl rfl ?_
            refine JL.pure rfl rfl ?_
            refine JL.re 206 rfl (v' := .bool true) (congrArg Value.bool (decide_eq_true hqt)) ?_
            refine JL.pure rfl rfl ?_
            refine JL.pure rfl rfl ?_
            refine JL.re 208 rfl (v' := .bool true) (rfl) ?_
            refine JL.want rfl rfl ?_
            refine JL.fieldAddr rfl Try.underlying88 rfl sh52 rfl ?_
            refine JL.want rfl rfl ?_
            refine JL.loadB 14 H rfl sh52 rfl rfl rfl ?_
            refine JL.want rfl rfl ?_
            refine JL.loadB 7 H rfl sh90 rfl rfl rfl ?_
            refine JL.want rfl rfl ?_
            refine JL.fieldAddr rfl Try.underlying23 rfl sh3 rfl ?_
            refine JL.want rfl rfl ?_
            refine JL.loadB 2 H rfl sh3 rfl rfl rfl ?_
            refine JL.want rfl rfl ?_
            refine JL.fieldAddr rfl Try.underlying23 rfl sh3 rfl ?_
            refine JL.want rfl rfl ?_
            refine JL.loadB 3 H rfl sh3 rfl rfl rfl ?_
            refine JL.want rfl rfl ?_
            refine JL.arith rfl (by unfold In64; omega) rfl ?_
            refine JL.want rfl rfl ?_
            refine JL.fieldAddr rfl Try.underlying23 rfl sh3 rfl ?_
            refine JL.want rfl rfl ?_
            refine JL.loadB 2 H rfl sh3 rfl rfl rfl ?_
            refine JL.want rfl rfl ?_
            refine JL.fieldAddr rfl Try.underlying23 rfl sh3 rfl ?_
            refine JL.want rfl rfl ?_
            refine JL.loadB 3 H rfl sh3 rfl rfl rfl ?_
            refine JL.want rfl rfl ?_
            refine JL.arith rfl (by unfold In64; omega) rfl ?_
            refine JL.want rfl rfl ?_
            refine JL.build s23 rfl rfl ?_
            refine JL.want rfl rfl ?_
            refine JL.pure rfl rfl ?_
            refine JL.want rfl rfl ?_
            refine JL.callP H fb102 rfl rfl (lands102_c g _ _ _ _ _ (stepAllR g cu wi d ⟨t, l, r, b, off⟩ sec).1.l (stepAllR g cu wi d ⟨t, l, r, b, off⟩ sec).1.r (stepAllR g cu wi d ⟨t, l, r, b, off⟩ sec).1.b (stepAllR g cu wi d ⟨t, l, r, b, off⟩ sec).1.off _ _ _ [(.slice x2b (stepAllR g cu wi d ⟨t, l, r, b, off⟩ sec).1.r.length y2b, (stepAllR g cu wi d ⟨t, l, r, b, off⟩ sec).1.r), (.slice x2a (stepAllR g cu wi d ⟨t, l, r, b, off⟩ sec).1.l.length y2a, (stepAllR g cu wi d ⟨t, l, r, b, off⟩ sec).1.l)] _ hgok (hl.grow H.below) (runSl H (j := 8) rfl (Nat.le_trans hfn.1.2 (by decide))) (runSl H (j := 9) rfl (Nat.le_trans hfn.2.1.2 (by decide))) (runSl H (j := 10) rfl (Nat.le_trans hfn.2.2.2 (by decide))) (H.rowSl1 (j := 1) (e := 50) (ev := Prod.fst) (l := [(.slice x2b (stepAllR g cu wi d ⟨t, l, r, b, off⟩ sec).1.r.length y2b, (stepAllR g cu wi d ⟨t, l, r, b, off⟩ sec).1.r), (.slice x2a (stepAllR g cu wi d ⟨t, l, r, b, off⟩ sec).1.l.length y2a, (stepAllR g cu wi d ⟨t, l, r, b, off⟩ sec).1.l)]) rfl (by simp)) (fun p9 hp9 => by
              simp only [List.mem_cons, List.not_mem_nil, or_false] at hp9
              rcases hp9 with rfl | rfl
              · exact (runSl H (j := 9) rfl (Nat.le_trans hfn.2.1.2 (by decide)))
              · exact (runSl H (j := 8) rfl (Nat.le_trans hfn.1.2 (by decide)))) (by unfold In64; omega) (by unfold In64; omega)) ?_
            intro w23 H _
            refine JL.re 224 rfl (v' := .bool true) (congrArg Value.bool (by have := hland.2; rw [if_pos h190] at this; exact this)) ?_
            refine JL.pure rfl rfl ?_
            refine JL.pure rfl rfl ?_
            refine JL.nil ?_
            ((repeat refine Ex.normal_block ?_); refine Ex.next ?_)
            ((repeat refine JC.seq ?_); refine JC.ret ?_)
            (repeat (first | refine Ex.ret_then ?_ | refine Ex.ret_block ?_))
            refine Ex.ret1 rfl (.tmp rfl) ⟨rfl, H.below⟩
          · intro h190
            (try simp only [Bool.not_eq_true', Bool.not_eq_false', decide_eq_true_eq, decide_eq_false_iff_not] at h190)
            have h190 : ¬ d.jibes = true := by simpa using h190
            ((repeat refine JC.seq ?_); refine JC.skip ?_)
            ((repeat refine Ex.normal_block ?_); refine Ex.next ?_)
            ((repeat refine JC.seq ?_); refine JC.region ?_)
            refine JL.pure rfl rfl ?_
            refine JL.pure rfl rfl ?_
            refine JL.re 199 rfl (v' := .bool true) (rfl) ?_
            refine JL.want rfl rfl ?_
            refine JL.fieldAddr rfl Try.underlying90 rfl sh3 rfl ?_
            refine JL.want rfl rfl ?_
            refine JL.loadB 6 H rfl sh3 rfl rfl rfl ?_
            refine JL.want rfl rfl ?_
            refine JL.fieldAddr rfl Try.underlying90 rfl sh3 rfl ?_
            refine JL.want rfl rfl ?_
            refine JL.loadB 12 H rfl sh3 rfl rfl rfl ?_
            refine JL.want rfl rfl ?_
            refine JL.pure rfl rfl ?_
            refine JL.want rfl rfl ?_
            refine JL.arith rfl (by unfold In64; omega) rfl ?_
            refine JL.want rfl rfl ?_
            refine JL.pure rfl rfl ?_
            refine JL.re 206 rfl (v' := .bool true) (congrArg Value.bool (decide_eq_true hqt)) ?_
            refine JL.pure rfl rfl ?_
            refine JL.pure rfl rfl ?_
            refine JL.re 208 rfl (v' := .bool true) (rfl) ?_
            refine JL.want rfl rfl ?_
            refine JL.fieldAddr rfl Try.underlying88 rfl sh52 rfl ?_
            refine JL.want rfl rfl ?_
            refine JL.loadB 13 H rfl sh52 rfl rfl rfl ?_
            refine JL.want rfl rfl ?_
            refine JL.loadB 6 H rfl sh90 rfl rfl rfl ?_
            refine JL.want rfl rfl ?_
            refine JL.fieldAddr rfl Try.underlying23 rfl sh3 rfl ?_
            refine JL.want rfl rfl ?_
            refine JL.loadB 1 H rfl sh3 rfl rfl rfl ?_
            refine JL.want rfl rfl ?_
            refine JL.fieldAddr rfl Try.underlying23 rfl sh3 rfl ?_
            refine JL.want rfl rfl ?_
            refine JL.loadB 2 H rfl sh3 rfl rfl rfl ?_
            refine JL.want rfl rfl ?_
            refine JL.arith rfl (by unfold In64; omega) rfl ?_
            refine JL.want rfl rfl ?_
            refine JL.fieldAddr rfl Try.underlying23 rfl sh3 rfl ?_
            refine JL.want rfl rfl ?_
            refine JL.loadB 1 H rfl sh3 rfl rfl rfl ?_
            refine JL.want rfl rfl ?_
            refine JL.fieldAddr rfl Try.underlying23 rfl sh3 rfl ?_
            refine JL.want rfl rfl ?_
            refine JL.loadB 2 H rfl sh3 rfl rfl rfl ?_
            refine JL.want rfl rfl ?_
            refine JL.arith rfl (by unfold In64; omega) rfl ?_
            refine JL.want rfl rfl ?_
            refine JL.build s23 rfl rfl ?_
            refine JL.want rfl rfl ?_
            refine JL.pure rfl rfl ?_
            refine JL.want rfl rfl ?_
            refine JL.callP H fb102 rfl rfl (lands102_c g _ _ _ _ _ (stepAllR g cu wi d ⟨t, l, r, b, off⟩ sec).1.l (stepAllR g cu wi d ⟨t, l, r, b, off⟩ sec).1.r (stepAllR g cu wi d ⟨t, l, r, b, off⟩ sec).1.b (stepAllR g cu wi d ⟨t, l, r, b, off⟩ sec).1.off _ _ _ [(.slice x2b (stepAllR g cu wi d ⟨t, l, r, b, off⟩ sec).1.r.length y2b, (stepAllR g cu wi d ⟨t, l, r, b, off⟩ sec).1.r)] _ hgok (hl.grow H.below) (runSl H (j := 7) rfl (Nat.le_trans hfn.1.2 (by decide))) (runSl H (j := 8) rfl (Nat.le_trans hfn.2.1.2 (by decide))) (runSl H (j := 9) rfl (Nat.le_trans hfn.2.2.2 (by decide))) (H.rowSl1 (j := 0) (e := 50) (ev := Prod.fst) (l := [(.slice x2b (stepAllR g cu wi d ⟨t, l, r, b, off⟩ sec).1.r.length y2b, (stepAllR g cu wi d ⟨t, l, r, b, off⟩ sec).1.r)]) rfl (by simp)) (fun p9 hp9 => by
              simp only [List.mem_cons, List.not_mem_nil, or_false] at hp9
              subst hp9
              exact (runSl H (j := 8) rfl (Nat.le_trans hfn.2.1.2 (by decide)))) (by unfold In64; omega) (by unfold In64; omega)) ?_
            intro w24 H _
            refine JL.re 224 rfl (v' := .bool true) (congrArg Value.bool (by have := hland.2; rw [if_neg h190] at this; exact this)) ?_
            refine JL.pure rfl rfl ?_
            refine JL.pure rfl rfl ?_
            refine JL.nil ?_
            ((repeat refine Ex.normal_block ?_); refine Ex.next ?_)
            ((repeat refine JC.seq ?_); refine JC.ret ?_)
            (repeat (first | refine Ex.ret_then ?_ | refine Ex.ret_block ?_))
            refine Ex.ret1 rfl (.tmp rfl) ⟨rfl, H.below⟩
end Go.J

namespace Go.J
open Go.RowKit Go.Proofs
theorem keeps_c (g : Grid) (lv cv wv : Value) (cu wi : List Flow) (d : Drifter) (t : Int) (lf rf bf : Value) (l r b : List Run) (off : Bool) (sec side part : Int) (x : Picks) (w : World) (hl : SlR w lv g.land) (hcl : capOK lv) (hc : FlowsIs w cv cu) (hw : FlowsIs w wv wi) (h1 : SlR w lf l) (h2 : SlR w rf r) (h3 : SlR w bf b)
    (c1 : capOK lf) (c2 : capOK rf) (c3 : capOK bf) (hsd : 0 ≤ side ∧ side ≤ 255) (hpt : u16' part) (hx : x.ok) :
    Calls Try.prog 22 #[seaEv g lv cv wv d, Patch.ev ⟨t, lf, l, rf, r, bf, b, off⟩, .int .i64 sec, .int .u8 side, .int .u16 part, x.ev] w (fun e w' => e = .returned (.bool true) ∧ Below w.heap.size w w') := by
  rcases Int.emod_two_eq side with h | h
  · exact keeps0_c g lv cv wv cu wi d t lf rf bf l r b off sec side part x w hl hcl hc hw h1 h2 h3 c1 c2 c3 hsd h hpt hx
  · exact keeps1_c g lv cv wv cu wi d t lf rf bf l r b off sec side part x w hl hcl hc hw h1 h2 h3 c1 c2 c3 hsd h hpt hx
end Go.J

namespace Go.J
open Go.RowKit Go.Proofs
set_option maxRecDepth 8000
set_option linter.unusedSimpArgs false
set_option linter.unusedVariables false
/-! four small numbers -/
section
variable {H : Type} {enc : TypeId × Value → H} {W : World} {base b0 : Nat} {spare : Nat → Bool} {held : Bool} {r : Reach} {v : Value} {d : DataW H} {p : List MemPlace}
end
end Go.J
