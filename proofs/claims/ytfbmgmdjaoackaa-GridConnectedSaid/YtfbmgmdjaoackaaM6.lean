/-
  Lemmas for the statements of this seat; no statement is proved here. No condition.
-/
import Derived.Test.YtfbmgmdjaoackaaM4
import Derived.Test.YtfbmgmdjaoackaaM5
namespace Go.J
open Go.RowKit Go.Proofs
set_option maxRecDepth 8000
set_option linter.unusedSimpArgs false
set_option linter.unusedVariables false
theorem in_c (n lo hi : Int) (w : World) : Pur Try.prog 174 #[.int .i64 n, .int .i64 lo, .int .i64 hi] w (.bool (decide (lo ≤ n ∧ n ≤ hi))) := by
  refine pur_J (args := [.int .i64 n, .int .i64 lo, .int .i64 hi]) Try.func174 rfl Try.ntmps174 rfl ?_
  have H := Own.start w
  ((repeat refine JC.seq ?_); refine JC.region ?_)
  refine JL.pure rfl rfl ?_
  refine JL.nil ?_
  ((repeat refine Ex.normal_block ?_); refine Ex.next ?_)
  ((repeat refine JC.seq ?_); refine JC.region ?_)
  refine JL.pure rfl rfl ?_
  refine JL.pure rfl rfl ?_
  refine JL.pure rfl rfl ?_
  refine JL.pure rfl rfl ?_
  refine JL.cases 10 rfl ?_ ?_
  · intro h10
    (try simp only [Bool.not_eq_true', Bool.not_eq_false', decide_eq_true_eq, decide_eq_false_iff_not] at h10)
    refine JL.want rfl rfl ?_
    refine JL.pure rfl rfl ?_
    refine JL.want rfl rfl ?_
    refine JL.pure rfl rfl ?_
    refine JL.want rfl rfl ?_
    refine JL.pure rfl rfl ?_
    refine JL.pure rfl rfl ?_
    refine JL.pure rfl rfl ?_
    refine JL.nil ?_
    ((repeat refine Ex.normal_block ?_); refine Ex.next ?_)
    ((repeat refine JC.seq ?_); refine JC.ret ?_)
    (repeat (first | refine Ex.ret_then ?_ | refine Ex.ret_block ?_))
    refine Ex.ret1 rfl (.tmp rfl) ⟨?_, H.below⟩
    simp [*]
  · intro h10
    (try simp only [Bool.not_eq_true', Bool.not_eq_false', decide_eq_true_eq, decide_eq_false_iff_not] at h10)
    refine JL.pass rfl rfl rfl rfl ?_
    refine JL.pass rfl rfl rfl rfl ?_
    refine JL.pass rfl rfl rfl rfl ?_
    refine JL.pure rfl rfl ?_
    refine JL.pure rfl rfl ?_
    refine JL.nil ?_
    ((repeat refine Ex.normal_block ?_); refine Ex.next ?_)
    ((repeat refine JC.seq ?_); refine JC.ret ?_)
    (repeat (first | refine Ex.ret_then ?_ | refine Ex.ret_block ?_))
    refine Ex.ret1 rfl (.tmp rfl) ⟨?_, H.below⟩
    simp [*]
theorem spotR_c (s : Spot) (w : World) : Pur Try.prog 171 #[s.ev] w (.bool s.ok) := by
  refine pur_J (args := [s.ev]) Try.func171 rfl Try.ntmps171 rfl ?_
  have H := Own.start w
  ((repeat refine JC.seq ?_); refine JC.region ?_)
  refine JL.box H rfl rfl rfl ?_
  intro b1 w1 H
  refine JL.pure rfl rfl ?_
  refine JL.nil ?_
  ((repeat refine Ex.normal_block ?_); refine Ex.next ?_)
  ((repeat refine JC.seq ?_); refine JC.region ?_)
  refine JL.fieldAddr rfl Try.underlying23 rfl sh3 rfl ?_
  refine JL.loadB 0 H rfl sh3 rfl rfl rfl ?_
  refine JL.callP H fb174 rfl rfl (in_c _ _ _ _) ?_
  intro w2 H _
  refine JL.pure rfl rfl ?_
  refine JL.cases 6 rfl ?_ ?_
  · intro h6
    (try simp only [Bool.not_eq_true', Bool.not_eq_false', decide_eq_true_eq, decide_eq_false_iff_not] at h6)
    refine JL.want rfl rfl ?_
    refine JL.fieldAddr rfl Try.underlying23 rfl sh3 rfl ?_
    refine JL.want rfl rfl ?_
    refine JL.loadB 0 H rfl sh3 rfl rfl rfl ?_
    refine JL.want rfl rfl ?_
    refine JL.callP H fb174 rfl rfl (in_c _ _ _ _) ?_
    intro w3 H _
    refine JL.pure rfl rfl ?_
    refine JL.pure rfl rfl ?_
    refine JL.nil ?_
    ((repeat refine Ex.normal_block ?_); refine Ex.next ?_)
    ((repeat refine JC.seq ?_); refine JC.ret ?_)
    (repeat (first | refine Ex.ret_then ?_ | refine Ex.ret_block ?_))
    refine Ex.ret1 rfl (.tmp rfl) ⟨?_, H.below⟩
    unfold Spot.ok
    simp [*]
  · intro h6
    (try simp only [Bool.not_eq_true', Bool.not_eq_false', decide_eq_true_eq, decide_eq_false_iff_not] at h6)
    refine JL.pass rfl rfl rfl rfl ?_
    refine JL.pass rfl rfl rfl rfl ?_
    refine JL.pass rfl rfl rfl rfl ?_
    refine JL.pure rfl rfl ?_
    refine JL.pure rfl rfl ?_
    refine JL.nil ?_
    ((repeat refine Ex.normal_block ?_); refine Ex.next ?_)
    ((repeat refine JC.seq ?_); refine JC.ret ?_)
    (repeat (first | refine Ex.ret_then ?_ | refine Ex.ret_block ?_))
    refine Ex.ret1 rfl (.tmp rfl) ⟨?_, H.below⟩
    unfold Spot.ok
    simp [*]
theorem rows_c (W H0 : Int) (v : Value) (rs : List Run) (w : World) (hr : SlR w v rs) (hH : 0 ≤ H0 ∧ H0 ≤ 1000) : Pur Try.prog 251 #[.int .i64 W, .int .i64 H0, v] w (.bool (rightB W H0 rs)) := by
  obtain ⟨hlen, a, cap, rfl, ha⟩ := hr
  refine pur_J (args := [.int .i64 W, .int .i64 H0, .slice a rs.length cap]) Try.func251 rfl Try.ntmps251 rfl ?_
  have H := Own.start w
  ((repeat refine JC.seq ?_); refine JC.region ?_)
  refine JL.pure rfl rfl ?_
  refine JL.nil ?_
  ((repeat refine Ex.normal_block ?_); refine Ex.next ?_)
  ((repeat refine JC.seq ?_); refine JC.region ?_)
  refine JL.pure rfl rfl ?_
  refine JL.nil ?_
  ((repeat refine Ex.normal_block ?_); refine Ex.next ?_)
  ((repeat refine JC.seq ?_); refine JC.block ?_)
  ((repeat refine JC.seq ?_); refine JC.loop (ι := Nat) (fun k => [(0, .int .i64 W), (1, .int .i64 H0), (2, .slice a rs.length cap), (7, .int .i64 k)])
    (fun k wr => k ≤ rs.length ∧ Canon W H0 (rs.take k) ∧ Own w wr []) (fun k => rs.length - k) 0 ?_ ?_ ?_)
  · exact ⟨rfl, rfl, rfl, rfl, trivial⟩
  · exact ⟨Nat.zero_le _, canon_nil, H⟩
  · rintro k wr ⟨hk, hcan, H⟩
    ((repeat refine JC.seq ?_); refine JC.region ?_)
    refine JL.pure rfl rfl ?_
    refine JL.pure rfl rfl ?_
    refine JL.len rfl Try.underlying50 rfl ?_
    refine JL.pure rfl rfl ?_
    refine JL.nil ?_
    ((repeat refine Ex.normal_block ?_); refine Ex.next ?_)
    ((repeat refine JC.seq ?_); refine JC.cond rfl ?_ ?_)
    · intro h11
      (try simp only [Bool.not_eq_true', Bool.not_eq_false', decide_eq_true_eq, decide_eq_false_iff_not] at h11)
      have h11 : k < rs.length := by omega
      obtain ⟨βr, off, rfl, hβ, hc⟩ := ha.resolve_left (by rintro rfl; simp at h11)
      have hx : rs[k]? = some rs[k] := by simp [h11]
      ((repeat refine JC.seq ?_); refine JC.skip ?_)
      ((repeat refine Ex.normal_block ?_); refine Ex.next ?_)
      ((repeat refine JC.seq ?_); refine JC.block ?_)
      ((repeat refine JC.seq ?_); refine JC.draw 39 H mixed (by kernel_rfl) rfl ?_)
      refine JD.pure rfl rfl ?_
      refine JD.pure rfl rfl ?_
      refine JD.indexS k rfl rfl Try.underlying50 sh140 rfl h11 rfl ?_
      refine JD.fieldAddr rfl Try.underlying140 rfl sh3 rfl ?_
      refine JD.load rfl sh3 (fun w hw => ((hc k _ hx).part 0 rfl 1).grow hβ hw.below) rfl ?_
      refine JD.pure rfl rfl ?_
      refine JD.arith rfl (by unfold In64; omega) rfl ?_
      refine JD.call fb174 rfl rfl (fun w hw => in_c _ _ _ _) ?_
      refine JD.pure rfl rfl ?_
      refine JD.pure rfl rfl ?_
      refine JD.cases 23 rfl ?_ ?_
      · intro h23
        (try simp only [Bool.not_eq_true', Bool.not_eq_false', decide_eq_true_eq, decide_eq_false_iff_not] at h23)
        refine JD.pass rfl rfl rfl rfl ?_
        refine JD.pass rfl rfl rfl rfl ?_
        refine JD.pass rfl rfl rfl rfl ?_
        refine JD.pass rfl rfl rfl rfl ?_
        refine JD.pass rfl rfl rfl rfl ?_
        refine JD.pass rfl rfl rfl rfl ?_
        refine JD.pure rfl rfl ?_
        refine JD.pure rfl rfl ?_
        refine JD.pass rfl rfl rfl rfl ?_
        refine JD.pass rfl rfl rfl rfl ?_
        refine JD.pass rfl rfl rfl rfl ?_
        refine JD.pass rfl rfl rfl rfl ?_
        refine JD.pass rfl rfl rfl rfl ?_
        refine JD.pass rfl rfl rfl rfl ?_
        refine JD.pass rfl rfl rfl rfl ?_
        refine JD.pass rfl rfl rfl rfl ?_
        refine JD.pass rfl rfl rfl rfl ?_
        refine JD.pass rfl rfl rfl rfl ?_
        refine JD.pass rfl rfl rfl rfl ?_
        refine JD.pure rfl rfl ?_
        refine JD.pure rfl rfl ?_
        refine JD.pass rfl rfl rfl rfl ?_
        refine JD.pass rfl rfl rfl rfl ?_
        refine JD.pass rfl rfl rfl rfl ?_
        refine JD.pass rfl rfl rfl rfl ?_
        refine JD.pass rfl rfl rfl rfl ?_
        refine JD.pass rfl rfl rfl rfl ?_
        refine JD.pass rfl rfl rfl rfl ?_
        refine JD.pure rfl rfl ?_
        refine JD.nil ?_
        intro w2 H
        show JL _ _ _ _ _ _ _
        refine JL.nil ?_
        ((repeat refine Ex.normal_block ?_); refine Ex.next ?_)
        ((repeat refine JC.seq ?_); refine JC.cond rfl (fun _ => ?_) (fun h => by cases h))
        ((repeat refine JC.seq ?_); refine JC.region ?_)
        refine JL.pure rfl rfl ?_
        refine JL.nil ?_
        ((repeat refine Ex.normal_block ?_); refine Ex.next ?_)
        ((repeat refine JC.seq ?_); refine JC.ret ?_)
        (repeat (first | refine Ex.ret_then ?_ | refine Ex.ret_block ?_))
        refine Ex.ret1 rfl (.tmp rfl) ⟨?_, H.below⟩
        first
          | (have hno : rightB W H0 rs = false := by
              rw [← Bool.not_eq_true, right_iff]
              rintro ⟨hcn, _⟩
              obtain ⟨h8, h9⟩ := canon_at hcn h11
              unfold rowIn at h8
              first
                | omega
                | (have h9 := h9 (by omega); omega)
             rw [hno])
          | (congr 2
             rw [Bool.eq_iff_iff, right_iff]
             simp only [decide_eq_true_eq]
             exact ⟨fun h => ⟨hcan, by omega⟩, fun h => by omega⟩)
      · intro h23
        (try simp only [Bool.not_eq_true', Bool.not_eq_false', decide_eq_true_eq, decide_eq_false_iff_not] at h23)
        refine JD.want rfl rfl ?_
        refine JD.pure rfl rfl ?_
        refine JD.want rfl rfl ?_
        refine JD.pure rfl rfl ?_
        refine JD.want rfl rfl ?_
        refine JD.indexS k rfl rfl Try.underlying50 sh140 rfl h11 rfl ?_
        refine JD.want rfl rfl ?_
        refine JD.fieldAddr rfl Try.underlying140 rfl sh3 rfl ?_
        refine JD.want rfl rfl ?_
        refine JD.load rfl sh3 (fun w hw => ((hc k _ hx).part 1 rfl 1).grow hβ hw.below) rfl ?_
        refine JD.want rfl rfl ?_
        refine JD.pure rfl rfl ?_
        refine JD.pure rfl rfl ?_
        refine JD.pure rfl rfl ?_
        refine JD.cases 31 rfl ?_ ?_
        · intro h31
          (try simp only [Bool.not_eq_true', Bool.not_eq_false', decide_eq_true_eq, decide_eq_false_iff_not] at h31)
          refine JD.pass rfl rfl rfl rfl ?_
          refine JD.pass rfl rfl rfl rfl ?_
          refine JD.pass rfl rfl rfl rfl ?_
          refine JD.pass rfl rfl rfl rfl ?_
          refine JD.pass rfl rfl rfl rfl ?_
          refine JD.pass rfl rfl rfl rfl ?_
          refine JD.pass rfl rfl rfl rfl ?_
          refine JD.pass rfl rfl rfl rfl ?_
          refine JD.pass rfl rfl rfl rfl ?_
          refine JD.pass rfl rfl rfl rfl ?_
          refine JD.pass rfl rfl rfl rfl ?_
          refine JD.pure rfl rfl ?_
          refine JD.pure rfl rfl ?_
          refine JD.pass rfl rfl rfl rfl ?_
          refine JD.pass rfl rfl rfl rfl ?_
          refine JD.pass rfl rfl rfl rfl ?_
          refine JD.pass rfl rfl rfl rfl ?_
          refine JD.pass rfl rfl rfl rfl ?_
          refine JD.pass rfl rfl rfl rfl ?_
          refine JD.pass rfl rfl rfl rfl ?_
          refine JD.pure rfl rfl ?_
          refine JD.nil ?_
          intro w3 H
          show JL _ _ _ _ _ _ _
          refine JL.nil ?_
          ((repeat refine Ex.normal_block ?_); refine Ex.next ?_)
          ((repeat refine JC.seq ?_); refine JC.cond rfl (fun _ => ?_) (fun h => by cases h))
          ((repeat refine JC.seq ?_); refine JC.region ?_)
          refine JL.pure rfl rfl ?_
          refine JL.nil ?_
          ((repeat refine Ex.normal_block ?_); refine Ex.next ?_)
          ((repeat refine JC.seq ?_); refine JC.ret ?_)
          (repeat (first | refine Ex.ret_then ?_ | refine Ex.ret_block ?_))
          refine Ex.ret1 rfl (.tmp rfl) ⟨?_, H.below⟩
          first
            | (have hno : rightB W H0 rs = false := by
                rw [← Bool.not_eq_true, right_iff]
                rintro ⟨hcn, _⟩
                obtain ⟨h8, h9⟩ := canon_at hcn h11
                unfold rowIn at h8
                first
                  | omega
                  | (have h9 := h9 (by omega); omega)
               rw [hno])
            | (congr 2
               rw [Bool.eq_iff_iff, right_iff]
               simp only [decide_eq_true_eq]
               exact ⟨fun h => ⟨hcan, by omega⟩, fun h => by omega⟩)
        · intro h31
          (try simp only [Bool.not_eq_true', Bool.not_eq_false', decide_eq_true_eq, decide_eq_false_iff_not] at h31)
          refine JD.want rfl rfl ?_
          refine JD.pure rfl rfl ?_
          refine JD.want rfl rfl ?_
          refine JD.pure rfl rfl ?_
          refine JD.want rfl rfl ?_
          refine JD.indexS k rfl rfl Try.underlying50 sh140 rfl h11 rfl ?_
          refine JD.want rfl rfl ?_
          refine JD.fieldAddr rfl Try.underlying140 rfl sh3 rfl ?_
          refine JD.want rfl rfl ?_
          refine JD.load rfl sh3 (fun w hw => ((hc k _ hx).part 1 rfl 1).grow hβ hw.below) rfl ?_
          refine JD.want rfl rfl ?_
          refine JD.pure rfl rfl ?_
          refine JD.want rfl rfl ?_
          refine JD.pure rfl rfl ?_
          refine JD.want rfl rfl ?_
          refine JD.indexS k rfl rfl Try.underlying50 sh140 rfl h11 rfl ?_
          refine JD.want rfl rfl ?_
          refine JD.fieldAddr rfl Try.underlying140 rfl sh3 rfl ?_
          refine JD.want rfl rfl ?_
          refine JD.load rfl sh3 (fun w hw => ((hc k _ hx).part 2 rfl 1).grow hβ hw.below) rfl ?_
          refine JD.want rfl rfl ?_
          refine JD.pure rfl rfl ?_
          refine JD.pure rfl rfl ?_
          refine JD.pure rfl rfl ?_
          refine JD.cases 44 rfl ?_ ?_
          · intro h44
            (try simp only [Bool.not_eq_true', Bool.not_eq_false', decide_eq_true_eq, decide_eq_false_iff_not] at h44)
            refine JD.pass rfl rfl rfl rfl ?_
            refine JD.pass rfl rfl rfl rfl ?_
            refine JD.pass rfl rfl rfl rfl ?_
            refine JD.pass rfl rfl rfl rfl ?_
            refine JD.pass rfl rfl rfl rfl ?_
            refine JD.pass rfl rfl rfl rfl ?_
            refine JD.pass rfl rfl rfl rfl ?_
            refine JD.pure rfl rfl ?_
            refine JD.nil ?_
            intro w4 H
            show JL _ _ _ _ _ _ _
            refine JL.nil ?_
            ((repeat refine Ex.normal_block ?_); refine Ex.next ?_)
            ((repeat refine JC.seq ?_); refine JC.cond rfl (fun _ => ?_) (fun h => by cases h))
            ((repeat refine JC.seq ?_); refine JC.region ?_)
            refine JL.pure rfl rfl ?_
            refine JL.nil ?_
            ((repeat refine Ex.normal_block ?_); refine Ex.next ?_)
            ((repeat refine JC.seq ?_); refine JC.ret ?_)
            (repeat (first | refine Ex.ret_then ?_ | refine Ex.ret_block ?_))
            refine Ex.ret1 rfl (.tmp rfl) ⟨?_, H.below⟩
            first
              | (have hno : rightB W H0 rs = false := by
                  rw [← Bool.not_eq_true, right_iff]
                  rintro ⟨hcn, _⟩
                  obtain ⟨h8, h9⟩ := canon_at hcn h11
                  unfold rowIn at h8
                  first
                    | omega
                    | (have h9 := h9 (by omega); omega)
                 rw [hno])
              | (congr 2
                 rw [Bool.eq_iff_iff, right_iff]
                 simp only [decide_eq_true_eq]
                 exact ⟨fun h => ⟨hcan, by omega⟩, fun h => by omega⟩)
          · intro h44
            (try simp only [Bool.not_eq_true', Bool.not_eq_false', decide_eq_true_eq, decide_eq_false_iff_not] at h44)
            refine JD.want rfl rfl ?_
            refine JD.pure rfl rfl ?_
            refine JD.want rfl rfl ?_
            refine JD.pure rfl rfl ?_
            refine JD.want rfl rfl ?_
            refine JD.indexS k rfl rfl Try.underlying50 sh140 rfl h11 rfl ?_
            refine JD.want rfl rfl ?_
            refine JD.fieldAddr rfl Try.underlying140 rfl sh3 rfl ?_
            refine JD.want rfl rfl ?_
            refine JD.load rfl sh3 (fun w hw => ((hc k _ hx).part 2 rfl 1).grow hβ hw.below) rfl ?_
            refine JD.want rfl rfl ?_
            refine JD.pure rfl rfl ?_
            refine JD.want rfl rfl ?_
            refine JD.pure rfl rfl ?_
            refine JD.pure rfl rfl ?_
            refine JD.nil ?_
            intro w5 H
            show JL _ _ _ _ _ _ _
            refine JL.nil ?_
            ((repeat refine Ex.normal_block ?_); refine Ex.next ?_)
            ((repeat refine JC.seq ?_); refine JC.cond rfl ?_ ?_)
            · intro h52
              (try simp only [Bool.not_eq_true', Bool.not_eq_false', decide_eq_true_eq, decide_eq_false_iff_not] at h52)
              
              ((repeat refine JC.seq ?_); refine JC.region ?_)
              refine JL.pure rfl rfl ?_
              refine JL.nil ?_
              ((repeat refine Ex.normal_block ?_); refine Ex.next ?_)
              ((repeat refine JC.seq ?_); refine JC.ret ?_)
              (repeat (first | refine Ex.ret_then ?_ | refine Ex.ret_block ?_))
              refine Ex.ret1 rfl (.tmp rfl) ⟨?_, H.below⟩
              first
                | (have hno : rightB W H0 rs = false := by
                    rw [← Bool.not_eq_true, right_iff]
                    rintro ⟨hcn, _⟩
                    obtain ⟨h8, h9⟩ := canon_at hcn h11
                    unfold rowIn at h8
                    first
                      | omega
                      | (have h9 := h9 (by omega); omega)
                   rw [hno])
                | (congr 2
                   rw [Bool.eq_iff_iff, right_iff]
                   simp only [decide_eq_true_eq]
                   exact ⟨fun h => ⟨hcan, by omega⟩, fun h => by omega⟩)
            · intro h52
              (try simp only [Bool.not_eq_true', Bool.not_eq_false', decide_eq_true_eq, decide_eq_false_iff_not] at h52)
              have hin : rowIn W H0 rs[k] := by unfold rowIn; omega
              ((repeat refine JC.seq ?_); refine JC.skip ?_)
              ((repeat refine Ex.normal_block ?_); refine Ex.next ?_)
              ((repeat refine JC.seq ?_); refine JC.draw 44 H mixed (by kernel_rfl) rfl ?_)
              refine JD.pure rfl rfl ?_
              refine JD.pure rfl rfl ?_
              refine JD.pure rfl rfl ?_
              refine JD.cases 55 rfl ?_ ?_
              · intro h55
                (try simp only [Bool.not_eq_true', Bool.not_eq_false', decide_eq_true_eq, decide_eq_false_iff_not] at h55)
                have hx1 : rs[k - 1]? = some (rs[k - 1]'(by omega)) := List.getElem?_eq_getElem _
                refine JD.want rfl rfl ?_
                refine JD.pure rfl rfl ?_
                refine JD.want rfl rfl ?_
                refine JD.pure rfl rfl ?_
                refine JD.want rfl rfl ?_
                refine JD.indexS k rfl rfl Try.underlying50 sh140 rfl h11 rfl ?_
                refine JD.want rfl rfl ?_
                refine JD.fieldAddr rfl Try.underlying140 rfl sh3 rfl ?_
                refine JD.want rfl rfl ?_
                refine JD.load rfl sh3 (fun w hw => ((hc k _ hx).part 0 rfl 1).grow hβ hw.below) rfl ?_
                refine JD.want rfl rfl ?_
                refine JD.pure rfl rfl ?_
                refine JD.want rfl rfl ?_
                refine JD.pure rfl rfl ?_
                refine JD.want rfl rfl ?_
                refine JD.arith rfl (by unfold In64; omega) rfl ?_
                refine JD.want rfl rfl ?_
                refine JD.indexS (k - 1) rfl rfl Try.underlying50 sh140 (by omega) (by omega) rfl ?_
                refine JD.want rfl rfl ?_
                refine JD.fieldAddr rfl Try.underlying140 rfl sh3 rfl ?_
                refine JD.want rfl rfl ?_
                refine JD.load rfl sh3 (fun w hw => ((hc (k - 1) _ hx1).part 0 rfl 1).grow hβ hw.below) rfl ?_
                refine JD.want rfl rfl ?_
                refine JD.pure rfl rfl ?_
                refine JD.want rfl rfl ?_
                refine JD.pure rfl rfl ?_
                refine JD.cases 68 rfl ?_ ?_
                · intro h68
                  (try simp only [Bool.not_eq_true', Bool.not_eq_false', decide_eq_true_eq, decide_eq_false_iff_not] at h68)
                  refine JD.pass rfl rfl rfl rfl ?_
                  refine JD.pass rfl rfl rfl rfl ?_
                  refine JD.pass rfl rfl rfl rfl ?_
                  refine JD.pass rfl rfl rfl rfl ?_
                  refine JD.pass rfl rfl rfl rfl ?_
                  refine JD.pass rfl rfl rfl rfl ?_
                  refine JD.pass rfl rfl rfl rfl ?_
                  refine JD.pass rfl rfl rfl rfl ?_
                  refine JD.pass rfl rfl rfl rfl ?_
                  refine JD.pass rfl rfl rfl rfl ?_
                  refine JD.pass rfl rfl rfl rfl ?_
                  refine JD.pass rfl rfl rfl rfl ?_
                  refine JD.pass rfl rfl rfl rfl ?_
                  refine JD.passU rfl rfl rfl ?_
                  refine JD.passU rfl rfl rfl ?_
                  refine JD.passU rfl rfl rfl ?_
                  refine JD.passU rfl rfl rfl ?_
                  refine JD.passU rfl rfl rfl ?_
                  refine JD.passU rfl rfl rfl ?_
                  refine JD.passU rfl rfl rfl ?_
                  refine JD.passU rfl rfl rfl ?_
                  refine JD.passU rfl rfl rfl ?_
                  refine JD.passU rfl rfl rfl ?_
                  refine JD.passU rfl rfl rfl ?_
                  refine JD.passU rfl rfl rfl ?_
                  refine JD.pass rfl rfl rfl rfl ?_
                  refine JD.want rfl rfl ?_
                  refine JD.pure rfl rfl ?_
                  refine JD.pure rfl rfl ?_
                  refine JD.nil ?_
                  intro w6 H
                  show JL _ _ _ _ _ _ _
                  refine JL.nil ?_
                  ((repeat refine Ex.normal_block ?_); refine Ex.next ?_)
                  ((repeat refine JC.seq ?_); refine JC.cond rfl (fun _ => ?_) (fun h => by cases h))
                  ((repeat refine JC.seq ?_); refine JC.region ?_)
                  refine JL.pure rfl rfl ?_
                  refine JL.nil ?_
                  ((repeat refine Ex.normal_block ?_); refine Ex.next ?_)
                  ((repeat refine JC.seq ?_); refine JC.ret ?_)
                  (repeat (first | refine Ex.ret_then ?_ | refine Ex.ret_block ?_))
                  refine Ex.ret1 rfl (.tmp rfl) ⟨?_, H.below⟩
                  first
                    | (have hno : rightB W H0 rs = false := by
                        rw [← Bool.not_eq_true, right_iff]
                        rintro ⟨hcn, _⟩
                        obtain ⟨h8, h9⟩ := canon_at hcn h11
                        unfold rowIn at h8
                        first
                          | omega
                          | (have h9 := h9 (by omega); omega)
                       rw [hno])
                    | (congr 2
                       rw [Bool.eq_iff_iff, right_iff]
                       simp only [decide_eq_true_eq]
                       exact ⟨fun h => ⟨hcan, by omega⟩, fun h => by omega⟩)
                · intro h68
                  (try simp only [Bool.not_eq_true', Bool.not_eq_false', decide_eq_true_eq, decide_eq_false_iff_not] at h68)
                  refine JD.want rfl rfl ?_
                  refine JD.pure rfl rfl ?_
                  refine JD.want rfl rfl ?_
                  refine JD.pure rfl rfl ?_
                  refine JD.want rfl rfl ?_
                  refine JD.indexS k rfl rfl Try.underlying50 sh140 rfl h11 rfl ?_
                  refine JD.want rfl rfl ?_
                  refine JD.fieldAddr rfl Try.underlying140 rfl sh3 rfl ?_
                  refine JD.want rfl rfl ?_
                  refine JD.load rfl sh3 (fun w hw => ((hc k _ hx).part 0 rfl 1).grow hβ hw.below) rfl ?_
                  refine JD.want rfl rfl ?_
                  refine JD.pure rfl rfl ?_
                  refine JD.want rfl rfl ?_
                  refine JD.pure rfl rfl ?_
                  refine JD.want rfl rfl ?_
                  refine JD.arith rfl (by unfold In64; omega) rfl ?_
                  refine JD.want rfl rfl ?_
                  refine JD.indexS (k - 1) rfl rfl Try.underlying50 sh140 (by omega) (by omega) rfl ?_
                  refine JD.want rfl rfl ?_
                  refine JD.fieldAddr rfl Try.underlying140 rfl sh3 rfl ?_
                  refine JD.want rfl rfl ?_
                  refine JD.load rfl sh3 (fun w hw => ((hc (k - 1) _ hx1).part 0 rfl 1).grow hβ hw.below) rfl ?_
                  refine JD.want rfl rfl ?_
                  refine JD.pure rfl rfl ?_
                  refine JD.want rfl rfl ?_
                  refine JD.pure rfl rfl ?_
                  refine JD.cases 81 rfl ?_ ?_
                  · intro h81
                    (try simp only [Bool.not_eq_true', Bool.not_eq_false', decide_eq_true_eq, decide_eq_false_iff_not] at h81)
                    refine JD.want rfl rfl ?_
                    refine JD.pure rfl rfl ?_
                    refine JD.want rfl rfl ?_
                    refine JD.pure rfl rfl ?_
                    refine JD.want rfl rfl ?_
                    refine JD.indexS k rfl rfl Try.underlying50 sh140 rfl h11 rfl ?_
                    refine JD.want rfl rfl ?_
                    refine JD.fieldAddr rfl Try.underlying140 rfl sh3 rfl ?_
                    refine JD.want rfl rfl ?_
                    refine JD.load rfl sh3 (fun w hw => ((hc k _ hx).part 1 rfl 1).grow hβ hw.below) rfl ?_
                    refine JD.want rfl rfl ?_
                    refine JD.pure rfl rfl ?_
                    refine JD.want rfl rfl ?_
                    refine JD.pure rfl rfl ?_
                    refine JD.want rfl rfl ?_
                    refine JD.arith rfl (by unfold In64; omega) rfl ?_
                    refine JD.want rfl rfl ?_
                    refine JD.indexS (k - 1) rfl rfl Try.underlying50 sh140 (by omega) (by omega) rfl ?_
                    refine JD.want rfl rfl ?_
                    refine JD.fieldAddr rfl Try.underlying140 rfl sh3 rfl ?_
                    refine JD.want rfl rfl ?_
                    refine JD.load rfl sh3 (fun w hw => ((hc (k - 1) _ hx1).part 2 rfl 1).grow hβ hw.below) rfl ?_
                    refine JD.want rfl rfl ?_
                    refine JD.pure rfl rfl ?_
                    refine JD.want rfl rfl ?_
                    refine JD.pure rfl rfl ?_
                    refine JD.want rfl rfl ?_
                    refine JD.pure rfl rfl ?_
                    refine JD.pure rfl rfl ?_
                    refine JD.nil ?_
                    intro w7 H
                    show JL _ _ _ _ _ _ _
                    refine JL.nil ?_
                    ((repeat refine Ex.normal_block ?_); refine Ex.next ?_)
                    ((repeat refine JC.seq ?_); refine JC.cond rfl ?_ ?_)
                    · intro h96
                      (try simp only [Bool.not_eq_true', Bool.not_eq_false', decide_eq_true_eq, decide_eq_false_iff_not] at h96)
                      ((repeat refine JC.seq ?_); refine JC.region ?_)
                      refine JL.pure rfl rfl ?_
                      refine JL.nil ?_
                      ((repeat refine Ex.normal_block ?_); refine Ex.next ?_)
                      ((repeat refine JC.seq ?_); refine JC.ret ?_)
                      (repeat (first | refine Ex.ret_then ?_ | refine Ex.ret_block ?_))
                      refine Ex.ret1 rfl (.tmp rfl) ⟨?_, H.below⟩
                      first
                        | (have hno : rightB W H0 rs = false := by
                            rw [← Bool.not_eq_true, right_iff]
                            rintro ⟨hcn, _⟩
                            obtain ⟨h8, h9⟩ := canon_at hcn h11
                            unfold rowIn at h8
                            first
                              | omega
                              | (have h9 := h9 (by omega); omega)
                           rw [hno])
                        | (congr 2
                           rw [Bool.eq_iff_iff, right_iff]
                           simp only [decide_eq_true_eq]
                           exact ⟨fun h => ⟨hcan, by omega⟩, fun h => by omega⟩)
                    · intro h96
                      (try simp only [Bool.not_eq_true', Bool.not_eq_false', decide_eq_true_eq, decide_eq_false_iff_not] at h96)
                      ((repeat refine JC.seq ?_); refine JC.skip ?_)
                      ((repeat refine Ex.normal_block ?_); refine Ex.next ?_)
                      ((repeat refine JC.seq ?_); refine JC.region ?_)
                      refine JL.pure rfl rfl ?_
                      refine JL.arith rfl (by unfold In64; omega) rfl ?_
                      refine JL.pure rfl rfl ?_
                      refine JL.nil ?_
                      (repeat refine Ex.normal_block ?_)
                      refine Ex.again (k + 1) ⟨rfl, rfl, rfl, rfl, trivial⟩ ⟨h11, canon_step hcan h11 hin (fun h0 => by omega), H⟩ (by omega)
                  · intro h81
                    (try simp only [Bool.not_eq_true', Bool.not_eq_false', decide_eq_true_eq, decide_eq_false_iff_not] at h81)
                    refine JD.pass rfl rfl rfl rfl ?_
                    refine JD.pass rfl rfl rfl rfl ?_
                    refine JD.pass rfl rfl rfl rfl ?_
                    refine JD.pass rfl rfl rfl rfl ?_
                    refine JD.pass rfl rfl rfl rfl ?_
                    refine JD.pass rfl rfl rfl rfl ?_
                    refine JD.pass rfl rfl rfl rfl ?_
                    refine JD.pass rfl rfl rfl rfl ?_
                    refine JD.pass rfl rfl rfl rfl ?_
                    refine JD.pass rfl rfl rfl rfl ?_
                    refine JD.pass rfl rfl rfl rfl ?_
                    refine JD.pass rfl rfl rfl rfl ?_
                    refine JD.want rfl rfl ?_
                    refine JD.pure rfl rfl ?_
                    refine JD.want rfl rfl ?_
                    refine JD.pure rfl rfl ?_
                    refine JD.pure rfl rfl ?_
                    refine JD.nil ?_
                    intro w8 H
                    show JL _ _ _ _ _ _ _
                    refine JL.nil ?_
                    ((repeat refine Ex.normal_block ?_); refine Ex.next ?_)
                    ((repeat refine JC.seq ?_); refine JC.cond rfl (fun h => by cases h) (fun _ => ?_))
                    ((repeat refine JC.seq ?_); refine JC.skip ?_)
                    ((repeat refine Ex.normal_block ?_); refine Ex.next ?_)
                    ((repeat refine JC.seq ?_); refine JC.region ?_)
                    refine JL.pure rfl rfl ?_
                    refine JL.arith rfl (by unfold In64; omega) rfl ?_
                    refine JL.pure rfl rfl ?_
                    refine JL.nil ?_
                    (repeat refine Ex.normal_block ?_)
                    refine Ex.again (k + 1) ⟨rfl, rfl, rfl, rfl, trivial⟩ ⟨h11, canon_step hcan h11 hin (fun h0 => by omega), H⟩ (by omega)
              · intro h55
                (try simp only [Bool.not_eq_true', Bool.not_eq_false', decide_eq_true_eq, decide_eq_false_iff_not] at h55)
                
                refine JD.pass rfl rfl rfl rfl ?_
                refine JD.pass rfl rfl rfl rfl ?_
                refine JD.pass rfl rfl rfl rfl ?_
                refine JD.pass rfl rfl rfl rfl ?_
                refine JD.pass rfl rfl rfl rfl ?_
                refine JD.pass rfl rfl rfl rfl ?_
                refine JD.pass rfl rfl rfl rfl ?_
                refine JD.pass rfl rfl rfl rfl ?_
                refine JD.pass rfl rfl rfl rfl ?_
                refine JD.pass rfl rfl rfl rfl ?_
                refine JD.pass rfl rfl rfl rfl ?_
                refine JD.pass rfl rfl rfl rfl ?_
                refine JD.pass rfl rfl rfl rfl ?_
                refine JD.passU rfl rfl rfl ?_
                refine JD.passU rfl rfl rfl ?_
                refine JD.passU rfl rfl rfl ?_
                refine JD.passU rfl rfl rfl ?_
                refine JD.passU rfl rfl rfl ?_
                refine JD.passU rfl rfl rfl ?_
                refine JD.passU rfl rfl rfl ?_
                refine JD.passU rfl rfl rfl ?_
                refine JD.passU rfl rfl rfl ?_
                refine JD.passU rfl rfl rfl ?_
                refine JD.passU rfl rfl rfl ?_
                refine JD.passU rfl rfl rfl ?_
                refine JD.passU rfl rfl rfl ?_
                refine JD.passU rfl rfl rfl ?_
                refine JD.passU rfl rfl rfl ?_
                refine JD.passU rfl rfl rfl ?_
                refine JD.passU rfl rfl rfl ?_
                refine JD.passU rfl rfl rfl ?_
                refine JD.passU rfl rfl rfl ?_
                refine JD.passU rfl rfl rfl ?_
                refine JD.passU rfl rfl rfl ?_
                refine JD.passU rfl rfl rfl ?_
                refine JD.passU rfl rfl rfl ?_
                refine JD.passU rfl rfl rfl ?_
                refine JD.passU rfl rfl rfl ?_
                refine JD.passU rfl rfl rfl ?_
                refine JD.pass rfl rfl rfl rfl ?_
                refine JD.pure rfl rfl ?_
                refine JD.nil ?_
                intro w9 H
                show JL _ _ _ _ _ _ _
                refine JL.nil ?_
                ((repeat refine Ex.normal_block ?_); refine Ex.next ?_)
                ((repeat refine JC.seq ?_); refine JC.cond rfl (fun h => by cases h) (fun _ => ?_))
                ((repeat refine JC.seq ?_); refine JC.skip ?_)
                ((repeat refine Ex.normal_block ?_); refine Ex.next ?_)
                ((repeat refine JC.seq ?_); refine JC.region ?_)
                refine JL.pure rfl rfl ?_
                refine JL.arith rfl (by unfold In64; omega) rfl ?_
                refine JL.pure rfl rfl ?_
                refine JL.nil ?_
                (repeat refine Ex.normal_block ?_)
                refine Ex.again (k + 1) ⟨rfl, rfl, rfl, rfl, trivial⟩ ⟨h11, canon_step hcan h11 hin (fun h0 => by omega), H⟩ (by omega)
    · intro h11
      (try simp only [Bool.not_eq_true', Bool.not_eq_false', decide_eq_true_eq, decide_eq_false_iff_not] at h11)
      have hkk : k = rs.length := by omega
      subst hkk
      rw [List.take_length] at hcan
      ((repeat refine JC.seq ?_); refine JC.exit ?_)
      (repeat (first | refine Ex.exit_then ?_ | refine Ex.exit_miss (by decide) ?_))
      refine Ex.exit_hit ?_
      ((repeat refine Ex.normal_block ?_); refine Ex.next ?_)
      ((repeat refine JC.seq ?_); refine JC.region ?_)
      refine JL.pure rfl rfl ?_
      refine JL.len rfl Try.underlying50 rfl ?_
      refine JL.pure rfl rfl ?_
      refine JL.pure rfl rfl ?_
      refine JL.nil ?_
      ((repeat refine Ex.normal_block ?_); refine Ex.next ?_)
      ((repeat refine JC.seq ?_); refine JC.ret ?_)
      (repeat (first | refine Ex.ret_then ?_ | refine Ex.ret_block ?_))
      refine Ex.ret1 rfl (.tmp rfl) ⟨?_, H.below⟩
      first
        | (have hno : rightB W H0 rs = false := by
            rw [← Bool.not_eq_true, right_iff]
            rintro ⟨hcn, _⟩
            obtain ⟨h8, h9⟩ := canon_at hcn h11
            unfold rowIn at h8
            first
              | omega
              | (have h9 := h9 (by omega); omega)
           rw [hno])
        | (congr 2
           rw [Bool.eq_iff_iff, right_iff]
           simp only [decide_eq_true_eq]
           exact ⟨fun h => ⟨hcan, by omega⟩, fun h => by omega⟩)
theorem gridR_c (g : Grid) (lv : Value) (w : World) (hl : SlR w lv g.land) : Pur Try.prog 170 #[g.ev lv] w (.bool g.ok) := by
  obtain ⟨la, lc, rfl⟩ := hl.len
  refine pur_J (args := [g.ev (.slice la g.land.length lc)]) Try.func170 rfl Try.ntmps170 rfl ?_
  have H := Own.start w
  ((repeat refine JC.seq ?_); refine JC.region ?_)
  refine JL.box H rfl rfl rfl ?_
  intro b1 w1 H
  refine JL.pure rfl rfl ?_
  refine JL.nil ?_
  ((repeat refine Ex.normal_block ?_); refine Ex.next ?_)
  ((repeat refine JC.seq ?_); refine JC.region ?_)
  refine JL.fieldAddr rfl Try.underlying52 rfl sh3 rfl ?_
  refine JL.loadB 0 H rfl sh3 rfl rfl rfl ?_
  refine JL.callP H fb174 rfl rfl (in_c _ _ _ _) ?_
  intro w2 H _
  refine JL.pure rfl rfl ?_
  refine JL.cases 6 rfl ?_ ?_
  · intro h6
    (try simp only [Bool.not_eq_true', Bool.not_eq_false', decide_eq_true_eq, decide_eq_false_iff_not] at h6)
    refine JL.want rfl rfl ?_
    refine JL.fieldAddr rfl Try.underlying52 rfl sh3 rfl ?_
    refine JL.want rfl rfl ?_
    refine JL.loadB 0 H rfl sh3 rfl rfl rfl ?_
    refine JL.want rfl rfl ?_
    refine JL.callP H fb174 rfl rfl (in_c _ _ _ _) ?_
    intro w3 H _
    refine JL.pure rfl rfl ?_
    refine JL.pure rfl rfl ?_
    refine JL.cases 11 rfl ?_ ?_
    · intro h11
      (try simp only [Bool.not_eq_true', Bool.not_eq_false', decide_eq_true_eq, decide_eq_false_iff_not] at h11)
      refine JL.want rfl rfl ?_
      refine JL.fieldAddr rfl Try.underlying52 rfl sh3 rfl ?_
      refine JL.want rfl rfl ?_
      refine JL.loadB 0 H rfl sh3 rfl rfl rfl ?_
      refine JL.want rfl rfl ?_
      refine JL.callP H fb174 rfl rfl (in_c _ _ _ _) ?_
      intro w4 H _
      refine JL.pure rfl rfl ?_
      refine JL.pure rfl rfl ?_
      refine JL.cases 16 rfl ?_ ?_
      · intro h16
        (try simp only [Bool.not_eq_true', Bool.not_eq_false', decide_eq_true_eq, decide_eq_false_iff_not] at h16)
        refine JL.want rfl rfl ?_
        refine JL.fieldAddr rfl Try.underlying52 rfl sh3 rfl ?_
        refine JL.want rfl rfl ?_
        refine JL.loadB 0 H rfl sh3 rfl rfl rfl ?_
        refine JL.want rfl rfl ?_
        refine JL.fieldAddr rfl Try.underlying52 rfl sh3 rfl ?_
        refine JL.want rfl rfl ?_
        refine JL.loadB 0 H rfl sh3 rfl rfl rfl ?_
        refine JL.want rfl rfl ?_
        refine JL.fieldAddr rfl Try.underlying52 rfl sh50 rfl ?_
        refine JL.want rfl rfl ?_
        refine JL.loadB 0 H rfl sh50 rfl rfl rfl ?_
        refine JL.want rfl rfl ?_
        refine JL.callP H fb251 rfl rfl (rows_c g.W g.H _ g.land _ (hl.grow H.below) (by omega)) ?_
        intro w5 H _
        refine JL.pure rfl rfl ?_
        refine JL.pure rfl rfl ?_
        refine JL.nil ?_
        ((repeat refine Ex.normal_block ?_); refine Ex.next ?_)
        ((repeat refine JC.seq ?_); refine JC.ret ?_)
        (repeat (first | refine Ex.ret_then ?_ | refine Ex.ret_block ?_))
        refine Ex.ret1 rfl (.tmp rfl) ⟨?_, H.below⟩
        unfold Grid.ok
        simp [*]
      · intro h16
        (try simp only [Bool.not_eq_true', Bool.not_eq_false', decide_eq_true_eq, decide_eq_false_iff_not] at h16)
        refine JL.pass rfl rfl rfl rfl ?_
        refine JL.pass rfl rfl rfl rfl ?_
        refine JL.pass rfl rfl rfl rfl ?_
        refine JL.pass rfl rfl rfl rfl ?_
        refine JL.pass rfl rfl rfl rfl ?_
        refine JL.pass rfl rfl rfl rfl ?_
        refine JL.pass rfl rfl rfl rfl ?_
        refine JL.pure rfl rfl ?_
        refine JL.pure rfl rfl ?_
        refine JL.nil ?_
        ((repeat refine Ex.normal_block ?_); refine Ex.next ?_)
        ((repeat refine JC.seq ?_); refine JC.ret ?_)
        (repeat (first | refine Ex.ret_then ?_ | refine Ex.ret_block ?_))
        refine Ex.ret1 rfl (.tmp rfl) ⟨?_, H.below⟩
        unfold Grid.ok
        simp [*]
    · intro h11
      (try simp only [Bool.not_eq_true', Bool.not_eq_false', decide_eq_true_eq, decide_eq_false_iff_not] at h11)
      refine JL.pass rfl rfl rfl rfl ?_
      refine JL.pass rfl rfl rfl rfl ?_
      refine JL.pass rfl rfl rfl rfl ?_
      refine JL.pure rfl rfl ?_
      refine JL.pure rfl rfl ?_
      refine JL.pass rfl rfl rfl rfl ?_
      refine JL.pass rfl rfl rfl rfl ?_
      refine JL.pass rfl rfl rfl rfl ?_
      refine JL.pass rfl rfl rfl rfl ?_
      refine JL.pass rfl rfl rfl rfl ?_
      refine JL.pass rfl rfl rfl rfl ?_
      refine JL.pass rfl rfl rfl rfl ?_
      refine JL.pure rfl rfl ?_
      refine JL.pure rfl rfl ?_
      refine JL.nil ?_
      ((repeat refine Ex.normal_block ?_); refine Ex.next ?_)
      ((repeat refine JC.seq ?_); refine JC.ret ?_)
      (repeat (first | refine Ex.ret_then ?_ | refine Ex.ret_block ?_))
      refine Ex.ret1 rfl (.tmp rfl) ⟨?_, H.below⟩
      unfold Grid.ok
      simp [*]
  · intro h6
    (try simp only [Bool.not_eq_true', Bool.not_eq_false', decide_eq_true_eq, decide_eq_false_iff_not] at h6)
    refine JL.pass rfl rfl rfl rfl ?_
    refine JL.pass rfl rfl rfl rfl ?_
    refine JL.pass rfl rfl rfl rfl ?_
    refine JL.pure rfl rfl ?_
    refine JL.pure rfl rfl ?_
    refine JL.pass rfl rfl rfl rfl ?_
    refine JL.pass rfl rfl rfl rfl ?_
    refine JL.pass rfl rfl rfl rfl ?_
    refine JL.pure rfl rfl ?_
    refine JL.pure rfl rfl ?_
    refine JL.pass rfl rfl rfl rfl ?_
    refine JL.pass rfl rfl rfl rfl ?_
    refine JL.pass rfl rfl rfl rfl ?_
    refine JL.pass rfl rfl rfl rfl ?_
    refine JL.pass rfl rfl rfl rfl ?_
    refine JL.pass rfl rfl rfl rfl ?_
    refine JL.pass rfl rfl rfl rfl ?_
    refine JL.pure rfl rfl ?_
    refine JL.pure rfl rfl ?_
    refine JL.nil ?_
    ((repeat refine Ex.normal_block ?_); refine Ex.next ?_)
    ((repeat refine JC.seq ?_); refine JC.ret ?_)
    (repeat (first | refine Ex.ret_then ?_ | refine Ex.ret_block ?_))
    refine Ex.ret1 rfl (.tmp rfl) ⟨?_, H.below⟩
    unfold Grid.ok
    simp [*]
theorem checkedB_take {g : Grid} {l : List (Value × List Run)} {k : Nat} (hk : k < l.length) : checkedB g ((l.take (k + 1)).map Prod.snd) = (checkedB g ((l.take k).map Prod.snd) && rightB g.W g.H l[k].2) := by
  unfold checkedB
  rw [List.take_succ_eq_append_getElem hk]
  simp only [List.map_append, List.all_append, List.map_cons, List.map_nil, List.all_cons, List.all_nil, Bool.and_true, Bool.and_assoc]
theorem valid_c (g : Grid) (lv lsv : Value) (l : List (Value × List Run)) (w : World) (hl : SlR w lv g.land) (hs : Sl Prod.fst (false, 1) w lsv l) (hr : ∀ p ∈ l, SlR w p.1 p.2) :
    Pur Try.prog 225 #[g.ev lv, lsv] w (.bool (checkedB g (l.map Prod.snd))) := by
  obtain ⟨la, lc, rfl⟩ := hl.len
  obtain ⟨sa, sc, rfl⟩ := hs.len
  refine pur_J (args := [g.ev (.slice la g.land.length lc), .slice sa l.length sc]) Try.func225 rfl Try.ntmps225 rfl ?_
  have H := Own.start w
  ((repeat refine JC.seq ?_); refine JC.region ?_)
  refine JL.box H rfl rfl rfl ?_
  intro b2 w1 H
  refine JL.pure rfl rfl ?_
  refine JL.nil ?_
  ((repeat refine Ex.normal_block ?_); refine Ex.next ?_)
  ((repeat refine JC.seq ?_); refine JC.region ?_)
  refine JL.loadB 0 H rfl sh52 rfl rfl rfl ?_
  refine JL.callP H fb170 rfl rfl (gridR_c g _ _ (hl.grow H.below)) ?_
  intro w2 H _
  refine JL.pure rfl rfl ?_
  refine JL.nil ?_
  ((repeat refine Ex.normal_block ?_); refine Ex.next ?_)
  ((repeat refine JC.seq ?_); refine JC.region ?_)
  refine JL.pure rfl rfl ?_
  refine JL.nil ?_
  ((repeat refine Ex.normal_block ?_); refine Ex.next ?_)
  ((repeat refine JC.seq ?_); refine JC.block ?_)
  ((repeat refine JC.seq ?_); refine JC.loop (ι := Nat) (fun k => [(1, .slice sa l.length sc), (2, .pointer (some ⟨b2, 0, none⟩)), (5, .bool (checkedB g ((l.take k).map Prod.snd))), (6, .int .i64 k)])
    (fun k wr => k ≤ l.length ∧ Own w wr [blk b2 (.cells ⟨[.int .i64 g.W, .int .i64 g.H, .int .i64 g.S, .slice la g.land.length lc]⟩ 52 (0, 0))]) (fun k => l.length - k) 0 ?_ ?_ ?_)
  · exact ⟨rfl, rfl, congrArg (fun b => some (Value.bool b)) (by simp [checkedB]), rfl, trivial⟩
  · exact ⟨Nat.zero_le _, H⟩
  · rintro k wr ⟨hk, H⟩
    ((repeat refine JC.seq ?_); refine JC.region ?_)
    refine JL.pure rfl rfl ?_
    refine JL.pure rfl rfl ?_
    refine JL.len rfl Try.underlying134 rfl ?_
    refine JL.pure rfl rfl ?_
    refine JL.nil ?_
    ((repeat refine Ex.normal_block ?_); refine Ex.next ?_)
    ((repeat refine JC.seq ?_); refine JC.cond rfl ?_ ?_)
    · intro h12
      (try simp only [Bool.not_eq_true', Bool.not_eq_false', decide_eq_true_eq, decide_eq_false_iff_not] at h12)
      have h12 : k < l.length := by omega
      have hx : l[k]? = some l[k] := by simp [h12]
      obtain ⟨xa, xc, hxv⟩ := (hr _ (List.getElem_mem h12)).len
      obtain ⟨_, _, _, he1, hs'⟩ := id hs
      cases he1
      obtain ⟨β, off, hsa, hβ, hc⟩ := hs'.resolve_left (by rintro rfl; simp at h12)
      ((repeat refine JC.seq ?_); refine JC.skip ?_)
      ((repeat refine Ex.normal_block ?_); refine Ex.next ?_)
      ((repeat refine JC.seq ?_); refine JC.block ?_)
      ((repeat refine JC.seq ?_); refine JC.draw 13 H mixed (by kernel_rfl) rfl ?_)
      refine JD.pure rfl rfl ?_
      refine JD.pure rfl rfl ?_
      refine JD.cases 16 rfl ?_ ?_
      · intro h16
        (try simp only [Bool.not_eq_true', Bool.not_eq_false', decide_eq_true_eq, decide_eq_false_iff_not] at h16)
        have hgok := (Grid.ok_b (checkedB_b (by simpa using h16)).1)
        have h16 : checkedB g ((l.take k).map Prod.snd) = true := by simpa using h16
        refine JD.want rfl rfl ?_
        refine JD.fieldAddr rfl Try.underlying52 rfl sh3 rfl ?_
        refine JD.want rfl rfl ?_
        refine JD.loadB 0 rfl sh3 rfl rfl rfl ?_
        refine JD.want rfl rfl ?_
        refine JD.fieldAddr rfl Try.underlying52 rfl sh3 rfl ?_
        refine JD.want rfl rfl ?_
        refine JD.loadB 0 rfl sh3 rfl rfl rfl ?_
        refine JD.want rfl rfl ?_
        refine JD.pure rfl rfl ?_
        refine JD.want rfl rfl ?_
        refine JD.pure rfl rfl ?_
        refine JD.want rfl rfl ?_
        refine JD.indexS k (congrArg (fun z => some (Value.slice z l.length sc)) hsa) rfl Try.underlying134 sh50 rfl h12 rfl ?_
        refine JD.want rfl rfl ?_
        refine JD.load rfl sh50 (fun w hw => by have := (hc k _ hx).grow hβ hw.below; rw [hxv] at this; exact this) rfl ?_
        refine JD.want rfl rfl ?_
        refine JD.call fb251 rfl rfl (fun w hw => rows_c g.W g.H _ l[k].2 w (by have := (hr _ (List.getElem_mem h12)).grow hw.below; rw [hxv] at this; exact this) (by omega)) ?_
        refine JD.pure rfl rfl ?_
        refine JD.pure rfl rfl ?_
        refine JD.nil ?_
        intro w3 H
        show JL _ _ _ _ _ _ _
        refine JL.nil ?_
        ((repeat refine Ex.normal_block ?_); refine Ex.next ?_)
        ((repeat refine JC.seq ?_); refine JC.region ?_)
        refine JL.pure rfl rfl ?_
        refine JL.arith rfl (by unfold In64; omega) rfl ?_
        refine JL.pure rfl rfl ?_
        refine JL.nil ?_
        (repeat refine Ex.normal_block ?_)
        refine Ex.again (k + 1) ⟨rfl, rfl, ?_, rfl, trivial⟩ ⟨h12, H⟩ (by omega)
        show some (Value.bool _) = some (Value.bool _)
        rw [checkedB_take h12, h16]
        simp
      · intro h16
        (try simp only [Bool.not_eq_true', Bool.not_eq_false', decide_eq_true_eq, decide_eq_false_iff_not] at h16)
        have h16 : checkedB g ((l.take k).map Prod.snd) = false := by simpa using h16
        refine JD.pass rfl rfl rfl rfl ?_
        refine JD.pass rfl rfl rfl rfl ?_
        refine JD.pass rfl rfl rfl rfl ?_
        refine JD.pass rfl rfl rfl rfl ?_
        refine JD.pass rfl rfl rfl rfl ?_
        refine JD.pass rfl rfl rfl rfl ?_
        refine JD.pass rfl rfl rfl rfl ?_
        refine JD.pass rfl rfl rfl rfl ?_
        refine JD.pass rfl rfl rfl rfl ?_
        refine JD.pure rfl rfl ?_
        refine JD.pure rfl rfl ?_
        refine JD.nil ?_
        intro w4 H
        show JL _ _ _ _ _ _ _
        refine JL.nil ?_
        ((repeat refine Ex.normal_block ?_); refine Ex.next ?_)
        ((repeat refine JC.seq ?_); refine JC.region ?_)
        refine JL.pure rfl rfl ?_
        refine JL.arith rfl (by unfold In64; omega) rfl ?_
        refine JL.pure rfl rfl ?_
        refine JL.nil ?_
        (repeat refine Ex.normal_block ?_)
        refine Ex.again (k + 1) ⟨rfl, rfl, ?_, rfl, trivial⟩ ⟨h12, H⟩ (by omega)
        show some (Value.bool _) = some (Value.bool _)
        rw [checkedB_take h12, h16]
        simp
    · intro h12
      (try simp only [Bool.not_eq_true', Bool.not_eq_false', decide_eq_true_eq, decide_eq_false_iff_not] at h12)
      have hkk : k = l.length := by omega
      subst hkk
      ((repeat refine JC.seq ?_); refine JC.exit ?_)
      (repeat (first | refine Ex.exit_then ?_ | refine Ex.exit_miss (by decide) ?_))
      refine Ex.exit_hit ?_
      ((repeat refine Ex.normal_block ?_); refine Ex.next ?_)
      ((repeat refine JC.seq ?_); refine JC.region ?_)
      refine JL.pure rfl rfl ?_
      refine JL.pure rfl rfl ?_
      refine JL.nil ?_
      ((repeat refine Ex.normal_block ?_); refine Ex.next ?_)
      ((repeat refine JC.seq ?_); refine JC.ret ?_)
      (repeat (first | refine Ex.ret_then ?_ | refine Ex.ret_block ?_))
      refine Ex.ret1 rfl (.tmp rfl) ⟨?_, H.below⟩
      rw [List.take_length]
end Go.J

namespace Go.J
set_option linter.unusedSimpArgs false
set_option linter.unusedVariables false
open Go.RowKit
theorem flat_set {α : Type} {enc : α → List Value} {sz : Nat} (he : ∀ x, (enc x).length = sz) {u x : α} {o : Nat} {v : Value} (ho : o < sz) (hu : (enc x).set o v = enc u) : ∀ (l : List α) (i : Nat), l[i]? = some x → (l.flatMap enc).set (i * sz + o) v = (l.set i u).flatMap enc := by
  intro l
  induction l with
  | nil => intro i h; simp at h
  | cons a l ih =>
    intro i h
    cases i with
    | zero =>
      simp only [List.getElem?_cons_zero, Option.some.injEq] at h
      subst h
      simp only [List.flatMap_cons, List.set_cons_zero, Nat.zero_mul, Nat.zero_add]
      rw [List.set_append, if_pos (by rw [he]; exact ho), hu]
    | succ i =>
      simp only [List.getElem?_cons_succ] at h
      simp only [List.flatMap_cons, List.set_cons_succ]
      rw [List.set_append, if_neg (by rw [he, Nat.add_mul, Nat.one_mul]; omega), he, ← ih i h]
      congr 2
      rw [Nat.add_mul, Nat.one_mul]
      omega
section
variable {P : Program} {N : Sz} {ops : Array Oper} {Q : Exit → Act → World → Prop} {rest : List Oper} {fr : Fr} {w w0 : World} {L : List HP}
  {d : Option Tmp} {ty : TypeId} {pos : String} {af : Array Edge}
/-- a store into one cell of an element of a row of ours -/
theorem JL.storeRowF {α : Type} {x y : Operand} {t : TypeId} {g n c sz i o : Nat} {v : Value} {e : TypeId} {enc : α → List Value} {l : List α} (j : Nat) (H : Own w0 w L) (he : ∀ x, (enc x).length = sz)
    (hj : L[j]? = some (trow e sz enc (.slice (some ⟨g, 0, none⟩) n c) l)) (z u : α) (hx : fr.ev x = some (.pointer (some ⟨g, 0 + i * sz + o, none⟩))) (hy : fr.ev y = some v) (hs : tySh P t = some (false, 1))
    (hv : cellsL v = [v]) (h1 : allOne [v] = true) (hz : l[i]? = some z) (ho : o < sz) (hu : (enc z).set o v = enc u)
    (k : ∀ w', Own w0 w' (L.set j (trow e sz enc (.slice (some ⟨g, 0, none⟩) n c) (l.set i u))) → JL P N ops Q rest fr w') : JL P N ops Q (⟨none, .store t x y, ty, pos, af, none⟩ :: rest) fr w := by
  obtain ⟨h2, h3⟩ := H.row_shape hj
  have hjl : j < L.length := (List.getElem?_eq_some_iff.1 hj).1
  have hi : i < l.length := (List.getElem?_eq_some_iff.1 hz).1
  rcases h3 with ⟨h, _⟩ | ⟨g', cap, cur, h, h4, h5, h6, h7, h8, h9, H'⟩
  · cases h
  cases h
  have hfit : 0 + i * sz + o < cur.toList.length := by
    have e1 : (i + 1) * sz ≤ l.length * sz := Nat.mul_le_mul_right _ hi
    have e2 : l.length * sz ≤ c * sz := Nat.mul_le_mul_right _ h4
    rw [Nat.add_mul, Nat.one_mul] at e1
    simp only [Array.length_toList, h6]
    omega
  refine JL.storeB (cs := cur.toList) (cs' := cur.toList.set (0 + i * sz + o) v) (L' := L.set j (blk g (.cells ⟨cur.toList.set (0 + i * sz + o) v⟩ e (0, 0)))) j H' hx hy hs
    (e := e) (by rw [List.getElem?_set_self hjl]) (by rw [hv]; rfl) (by rw [hv]; exact h1) (by rw [hv]; exact setK_one hfit) (by rw [setLK_at' _ (by simpa using hjl), List.set_set]) fun w' HH => k w' ?_
  have hl2 : ((l.set i u).flatMap enc).length = (l.set i u).length * sz := flat_len he _
  have hrow : ∀ h, blk g (.cells ⟨cur.toList.set (0 + i * sz + o) v⟩ e (0, 0)) h → trow e sz enc (.slice (some ⟨g, 0, none⟩) l.length c) (l.set i u) h := by
    intro h hb
    have := row_of_blk (e := e) (sz := sz) (g := g) (n := (l.set i u).length) (cap := c) (xs := (l.set i u).flatMap enc) hl2 (by simpa using h4) h5 (by
      simp only [List.size_toArray, List.length_set, Array.length_toList, h6]) (by
      simp only [List.length_set]
      rw [List.take_set, h7, Nat.zero_add]
      exact flat_set he ho hu l i hz) h hb
    simpa [trow] using this
  have H3 := HH.upd (List.getElem?_set_self hjl) hrow
  rw [List.set_set] at H3
  exact H3
end
end Go.J

namespace Go.J
open Go.RowKit Go.Proofs
set_option maxRecDepth 8000
set_option linter.unusedSimpArgs false
set_option linter.unusedVariables false
theorem nat_mul_bd {a b : Nat} (ha : a ≤ 256) (hb : b ≤ 256) : a * b ≤ 65536 := Nat.mul_le_mul ha hb
theorem every_c (g : Grid) (lv : Value) (w : World) (hl : SlR w lv g.land) (hW : 0 ≤ g.W ∧ g.W ≤ 256) (hH : 0 ≤ g.H ∧ g.H ≤ 256) :
    Calls Try.prog 172 #[g.ev lv] w (fun e w' => ∃ v, e = .returned v ∧ Own w w' [cellRow v (everyR g.W.toNat g.H.toNat)]) := by
  obtain ⟨la, lc, rfl⟩ := hl.len
  refine calls_J (args := [g.ev (.slice la g.land.length lc)]) Try.func172 rfl Try.ntmps172 rfl ?_
  have H := Own.start w
  ((repeat refine JC.seq ?_); refine JC.region ?_)
  refine JL.box H rfl rfl rfl ?_
  intro b1 w1 H
  refine JL.pure rfl rfl ?_
  refine JL.nil ?_
  ((repeat refine Ex.normal_block ?_); refine Ex.next ?_)
  ((repeat refine JC.seq ?_); refine JC.region ?_)
  refine JL.pure rfl rfl ?_
  refine JL.nil ?_
  ((repeat refine Ex.normal_block ?_); refine Ex.next ?_)
  ((repeat refine JC.seq ?_); refine JC.region ?_)
  refine JL.pure rfl rfl ?_
  refine JL.nil ?_
  ((repeat refine Ex.normal_block ?_); refine Ex.next ?_)
  ((repeat refine JC.seq ?_); refine JC.block ?_)
  ((repeat refine JC.seq ?_); refine JC.loop (ι := Nat × Value) (fun x => [(1, .pointer (some ⟨b1, 0, none⟩)), (3, x.2), (4, .int .i64 x.1)])
    (fun x wr => x.1 ≤ g.H.toNat ∧ Own w wr [cellRow x.2 (everyR g.W.toNat x.1), blk b1 (.cells ⟨[.int .i64 g.W, .int .i64 g.H, .int .i64 g.S, .slice la g.land.length lc]⟩ 52 (0, 0))]) (fun x => g.H.toNat - x.1) (0, .slice none 0 0) ?_ ?_ ?_)
  · exact ⟨rfl, rfl, rfl, trivial⟩
  · exact ⟨Nat.zero_le _, H.nilRow 62 2⟩
  · rintro ⟨y, v⟩ wr ⟨hy, H⟩
    simp only at hy H
    show JC _ _ _ _ [(1, .pointer (some ⟨b1, 0, none⟩)), (3, v), (4, .int .i64 y)] _
    ((repeat refine JC.seq ?_); refine JC.region ?_)
    refine JL.pure rfl rfl ?_
    refine JL.fieldAddr rfl Try.underlying52 rfl sh3 rfl ?_
    refine JL.loadB 1 H rfl sh3 rfl rfl rfl ?_
    refine JL.pure rfl rfl ?_
    refine JL.nil ?_
    ((repeat refine Ex.normal_block ?_); refine Ex.next ?_)
    ((repeat refine JC.seq ?_); refine JC.cond rfl ?_ ?_)
    · intro h9
      (try simp only [Bool.not_eq_true', Bool.not_eq_false', decide_eq_true_eq, decide_eq_false_iff_not] at h9)
      
      ((repeat refine JC.seq ?_); refine JC.skip ?_)
      ((repeat refine Ex.normal_block ?_); refine Ex.next ?_)
      ((repeat refine JC.seq ?_); refine JC.block ?_)
      ((repeat refine JC.seq ?_); refine JC.region ?_)
      refine JL.pure rfl rfl ?_
      refine JL.nil ?_
      ((repeat refine Ex.normal_block ?_); refine Ex.next ?_)
      ((repeat refine JC.seq ?_); refine JC.block ?_)
      ((repeat refine JC.seq ?_); refine JC.loop (ι := Nat × Value) (fun x => [(1, .pointer (some ⟨b1, 0, none⟩)), (3, x.2), (4, .int .i64 y), (5, .int .i64 x.1)])
        (fun x wr => x.1 ≤ g.W.toNat ∧ Own w wr [cellRow x.2 (everyR g.W.toNat y ++ (List.range x.1).map fun (x : Nat) => (⟨x, y⟩ : Cell)), blk b1 (.cells ⟨[.int .i64 g.W, .int .i64 g.H, .int .i64 g.S, .slice la g.land.length lc]⟩ 52 (0, 0))]) (fun x => g.W.toNat - x.1) (0, v) ?_ ?_ ?_)
      · exact ⟨rfl, rfl, rfl, rfl, trivial⟩
      · exact ⟨Nat.zero_le _, by simpa using H⟩
      · rintro ⟨x, v⟩ wr ⟨hx, H⟩
        simp only at hx H
        show JC _ _ _ _ [(1, .pointer (some ⟨b1, 0, none⟩)), (3, v), (4, .int .i64 y), (5, .int .i64 x)] _
        ((repeat refine JC.seq ?_); refine JC.region ?_)
        refine JL.pure rfl rfl ?_
        refine JL.fieldAddr rfl Try.underlying52 rfl sh3 rfl ?_
        refine JL.loadB 1 H rfl sh3 rfl rfl rfl ?_
        refine JL.pure rfl rfl ?_
        refine JL.nil ?_
        ((repeat refine Ex.normal_block ?_); refine Ex.next ?_)
        ((repeat refine JC.seq ?_); refine JC.cond rfl ?_ ?_)
        · intro h15
          (try simp only [Bool.not_eq_true', Bool.not_eq_false', decide_eq_true_eq, decide_eq_false_iff_not] at h15)
          have hlen : (everyR g.W.toNat y ++ (List.range x).map fun (x : Nat) => (⟨x, y⟩ : Cell)).length ≤ 70000 := by
            rw [List.length_append, everyR_len, List.length_map, List.length_range]
            have := nat_mul_bd (a := g.W.toNat) (b := y) (by omega) (by omega)
            omega
          ((repeat refine JC.seq ?_); refine JC.skip ?_)
          ((repeat refine Ex.normal_block ?_); refine Ex.next ?_)
          ((repeat refine JC.seq ?_); refine JC.block ?_)
          ((repeat refine JC.seq ?_); refine JC.region ?_)
          refine JL.pure rfl rfl ?_
          refine JL.pure rfl rfl ?_
          refine JL.pure rfl rfl ?_
          refine JL.build s62 rfl rfl ?_
          refine JL.buildSlice H Try.underlying68 sh62 z62 rfl rfl rfl rfl rfl ?_
          intro b22 w2 H
          refine JL.append1 (news := Cell.cs ⟨x, y⟩) 1 0 H Try.underlying68 ap62 rfl rfl rfl rfl rfl rfl (by omega) (by omega) rfl ?_
          intro v2 w3 H
          replace H := H.cast (L := _ :: cellRow v2 ((everyR g.W.toNat y ++ (List.range x).map fun (x : Nat) => (⟨x, y⟩ : Cell)) ++ [⟨x, y⟩]) :: _) (by unfold cellRow; rw [← trow_snoc]; rfl)
          refine JL.pure rfl rfl ?_
          refine JL.nil ?_
          ((repeat refine Ex.normal_block ?_); refine Ex.next ?_)
          ((repeat refine JC.seq ?_); refine JC.region ?_)
          refine JL.pure rfl rfl ?_
          refine JL.arith rfl (by unfold In64; omega) rfl ?_
          refine JL.pure rfl rfl ?_
          refine JL.nil ?_
          (repeat refine Ex.normal_block ?_)
          refine Ex.again (x + 1, v2) ⟨rfl, rfl, rfl, rfl, trivial⟩ ⟨by simp only; omega, ?_⟩ (by simp only; omega)
          simp only
          rw [List.range_succ, List.map_append, ← List.append_assoc]
          exact H.drop 0
        · intro h15
          (try simp only [Bool.not_eq_true', Bool.not_eq_false', decide_eq_true_eq, decide_eq_false_iff_not] at h15)
          have hxx : x = g.W.toNat := by omega
          subst hxx
          ((repeat refine JC.seq ?_); refine JC.exit ?_)
          (repeat (first | refine Ex.exit_then ?_ | refine Ex.exit_miss (by decide) ?_))
          refine Ex.exit_hit ?_
          ((repeat refine Ex.normal_block ?_); refine Ex.next ?_)
          ((repeat refine JC.seq ?_); refine JC.region ?_)
          refine JL.pure rfl rfl ?_
          refine JL.arith rfl (by unfold In64; omega) rfl ?_
          refine JL.pure rfl rfl ?_
          refine JL.nil ?_
          (repeat refine Ex.normal_block ?_)
          refine Ex.again (y + 1, v) ⟨rfl, rfl, rfl, trivial⟩ ⟨by simp only; omega, ?_⟩ (by simp only; omega)
          simp only
          rw [everyR_succ]
          exact H
    · intro h9
      (try simp only [Bool.not_eq_true', Bool.not_eq_false', decide_eq_true_eq, decide_eq_false_iff_not] at h9)
      have hyy : y = g.H.toNat := by omega
      subst hyy
      ((repeat refine JC.seq ?_); refine JC.exit ?_)
      (repeat (first | refine Ex.exit_then ?_ | refine Ex.exit_miss (by decide) ?_))
      refine Ex.exit_hit ?_
      ((repeat refine Ex.normal_block ?_); refine Ex.next ?_)
      ((repeat refine JC.seq ?_); refine JC.region ?_)
      refine JL.pure rfl rfl ?_
      refine JL.pure rfl rfl ?_
      refine JL.nil ?_
      ((repeat refine Ex.normal_block ?_); refine Ex.next ?_)
      ((repeat refine JC.seq ?_); refine JC.ret ?_)
      (repeat (first | refine Ex.ret_then ?_ | refine Ex.ret_block ?_))
      refine Ex.ret1 rfl (.tmp rfl) ⟨_, rfl, H.drop 1⟩
theorem rstep_no {s : Cell → Bool} {y x : Int} {out : List Run} (h : s ⟨x, y⟩ = false) : rstep s y out x = out := by unfold rstep; rw [h]; rfl
theorem last_get {α : Type} (l : List α) : l.getLast? = l[l.length - 1]? := by rw [List.getLast?_eq_getElem?]
theorem rstep_join {s : Cell → Bool} {y x : Int} {out : List Run} {l : Run} (h : s ⟨x, y⟩ = true) (hl : out[out.length - 1]? = some l) (h1 : l.Y = y) (h2 : l.To = x) : rstep s y out x = out.set (out.length - 1) ⟨l.Y, l.From, x + 1⟩ := by
  have hlt := (List.getElem?_eq_some_iff.1 hl).1
  unfold rstep
  rw [h, last_get, hl]
  simp only [if_true]
  rw [if_pos ⟨h1, h2⟩, List.set_eq_take_drop _ _ _ hlt, List.dropLast_eq_take, List.drop_of_length_le (by omega)]
theorem rstep_app {s : Cell → Bool} {y x : Int} {out : List Run} (h : s ⟨x, y⟩ = true) (hl : ∀ l, out[out.length - 1]? = some l → ¬(l.Y = y ∧ l.To = x)) : rstep s y out x = out ++ [⟨y, x, x + 1⟩] := by
  unfold rstep
  rw [h, last_get]
  simp only [if_true]
  cases he : out[out.length - 1]? with
  | none => rfl
  | some l => simp only; rw [if_neg (hl l he)]
theorem rstep_len {s : Cell → Bool} {y x : Int} {out : List Run} : (rstep s y out x).length ≤ out.length + 1 := by
  cases h : s ⟨x, y⟩ with
  | false => rw [rstep_no h]; omega
  | true =>
    cases he : out[out.length - 1]? with
    | none => rw [rstep_app h (by rw [he]; simp)]; simp
    | some l =>
      by_cases hj : l.Y = y ∧ l.To = x
      · rw [rstep_join h he hj.1 hj.2]; simp
      · rw [rstep_app h (by rw [he]; intro l' hl'; cases hl'; exact hj)]; simp
theorem runRow1_len {s : Cell → Bool} {y : Int} {out : List Run} : ∀ n, (runRow1 s y out n).length ≤ out.length + n := by
  intro n
  induction n with
  | zero => simp [runRow1]
  | succ n ih => rw [runRow1_succ]; have := rstep_len (s := s) (y := y) (x := n) (out := runRow1 s y out n); omega
theorem runAll_len {s : Cell → Bool} {W : Nat} : ∀ n, (runAll s W n).length ≤ W * n := by
  intro n
  induction n with
  | zero => simp [runAll]
  | succ n ih => rw [runAll_succ]; have := runRow1_len (s := s) (y := n) (out := runAll s W n) W; rw [Nat.mul_succ]; omega
def setR (m : List (Cell × Bool)) : Cell → Bool := fun c => (mget m c).getD false
def MapAt (w : World) (β : Nat) (m : List (Cell × Bool)) : Prop := ∃ es clock, MapIs Cell.ev Value.bool es clock m ∧ w.heap[β]? = some (.map es clock)
theorem MapAt.lt {w : World} {β : Nat} {m : List (Cell × Bool)} (h : MapAt w β m) : β < w.heap.size := by
  obtain ⟨_, _, _, h⟩ := h
  exact (Array.getElem?_eq_some_iff.1 h).1
theorem MapAt.grow {w w' : World} {β : Nat} {m : List (Cell × Bool)} (h : MapAt w β m) (hB : Below w.heap.size w w') : MapAt w' β m := by
  have hlt := h.lt
  obtain ⟨es, c, h1, h2⟩ := h
  exact ⟨es, c, h1, by rw [hB.block _ hlt]; exact h2⟩
theorem Own.mapAt {w0 w : World} {L : List HP} (H : Own w0 w L) {i β : Nat} {m : List (Cell × Bool)} (hi : L[i]? = some (setM β m)) : MapAt w β m := by
  obtain ⟨es, clock, hM, H1⟩ := H.openM hi
  exact ⟨es, clock, hM, (H1.get (List.getElem?_set_self (List.getElem?_eq_some_iff.1 hi).1)).2⟩
theorem runs_c (g : Grid) (lv : Value) (β : Nat) (m : List (Cell × Bool)) (w : World) (hl : SlR w lv g.land) (hW : 0 ≤ g.W ∧ g.W ≤ 256) (hH : 0 ≤ g.H ∧ g.H ≤ 256) (hm : MapAt w β m) :
    Calls Try.prog 173 #[g.ev lv, .map (some β)] w (fun e w' => ResR w w' [] (runsR g (setR m)) e) := by
  obtain ⟨la, lc, rfl⟩ := hl.len
  refine calls_J (args := [g.ev (.slice la g.land.length lc), .map (some β)]) Try.func173 rfl Try.ntmps173 rfl ?_
  have H := Own.start w
  ((repeat refine JC.seq ?_); refine JC.region ?_)
  refine JL.box H rfl rfl rfl ?_
  intro b2 w1 H
  refine JL.pure rfl rfl ?_
  refine JL.pure rfl rfl ?_
  refine JL.nil ?_
  ((repeat refine Ex.normal_block ?_); refine Ex.next ?_)
  ((repeat refine JC.seq ?_); refine JC.region ?_)
  refine JL.pure rfl rfl ?_
  refine JL.nil ?_
  ((repeat refine Ex.normal_block ?_); refine Ex.next ?_)
  ((repeat refine JC.seq ?_); refine JC.region ?_)
  refine JL.pure rfl rfl ?_
  refine JL.nil ?_
  ((repeat refine Ex.normal_block ?_); refine Ex.next ?_)
  ((repeat refine JC.seq ?_); refine JC.block ?_)
  ((repeat refine JC.seq ?_); refine JC.loop (ι := Nat × Value) (fun x => [(1, .map (some β)), (2, .pointer (some ⟨b2, 0, none⟩)), (6, x.2), (7, .int .i64 x.1)])
    (fun x wr => x.1 ≤ g.H.toNat ∧ Own w wr [runRow x.2 (runAll (setR m) g.W.toNat x.1), blk b2 (.cells ⟨[.int .i64 g.W, .int .i64 g.H, .int .i64 g.S, .slice la g.land.length lc]⟩ 52 (0, 0))]) (fun x => g.H.toNat - x.1) (0, .slice none 0 0) ?_ ?_ ?_)
  · exact ⟨rfl, rfl, rfl, rfl, trivial⟩
  · exact ⟨Nat.zero_le _, H.nilRow 140 3⟩
  · rintro ⟨y, v⟩ wr ⟨hy, H⟩
    simp only at hy H
    show JC _ _ _ _ [(1, .map (some β)), (2, .pointer (some ⟨b2, 0, none⟩)), (6, v), (7, .int .i64 y)] _
    ((repeat refine JC.seq ?_); refine JC.region ?_)
    refine JL.pure rfl rfl ?_
    refine JL.fieldAddr rfl Try.underlying52 rfl sh3 rfl ?_
    refine JL.loadB 1 H rfl sh3 rfl rfl rfl ?_
    refine JL.pure rfl rfl ?_
    refine JL.nil ?_
    ((repeat refine Ex.normal_block ?_); refine Ex.next ?_)
    ((repeat refine JC.seq ?_); refine JC.cond rfl ?_ ?_)
    · intro h12
      (try simp only [Bool.not_eq_true', Bool.not_eq_false', decide_eq_true_eq, decide_eq_false_iff_not] at h12)
      
      ((repeat refine JC.seq ?_); refine JC.skip ?_)
      ((repeat refine Ex.normal_block ?_); refine Ex.next ?_)
      ((repeat refine JC.seq ?_); refine JC.block ?_)
      ((repeat refine JC.seq ?_); refine JC.region ?_)
      refine JL.pure rfl rfl ?_
      refine JL.nil ?_
      ((repeat refine Ex.normal_block ?_); refine Ex.next ?_)
      ((repeat refine JC.seq ?_); refine JC.block ?_)
      ((repeat refine JC.seq ?_); refine JC.loop (ι := Nat × Value) (fun x => [(1, .map (some β)), (2, .pointer (some ⟨b2, 0, none⟩)), (6, x.2), (7, .int .i64 y), (8, .int .i64 x.1)])
        (fun x wr => x.1 ≤ g.W.toNat ∧ Own w wr [runRow x.2 (runRow1 (setR m) y (runAll (setR m) g.W.toNat y) x.1), blk b2 (.cells ⟨[.int .i64 g.W, .int .i64 g.H, .int .i64 g.S, .slice la g.land.length lc]⟩ 52 (0, 0))]) (fun x => g.W.toNat - x.1) (0, v) ?_ ?_ ?_)
      · exact ⟨rfl, rfl, rfl, rfl, rfl, trivial⟩
      · exact ⟨Nat.zero_le _, H⟩
      · rintro ⟨x, v⟩ wr ⟨hx, H⟩
        simp only at hx H
        obtain ⟨oa, oc, rfl⟩ := H.row_slice (j := 0) rfl
        have hol : (runRow1 (setR m) y (runAll (setR m) g.W.toNat y) x).length ≤ 70000 := by
          have h1 := runRow1_len (s := setR m) (y := y) (out := runAll (setR m) g.W.toNat y) x
          have h2 := runAll_len (s := setR m) (W := g.W.toNat) y
          have h3 := nat_mul_bd (a := g.W.toNat) (b := y) (by omega) (by omega)
          omega
        generalize hout : runRow1 (setR m) y (runAll (setR m) g.W.toNat y) x = out at H hol
        show JC _ _ _ _ [(1, .map (some β)), (2, .pointer (some ⟨b2, 0, none⟩)), (6, .slice oa out.length oc), (7, .int .i64 y), (8, .int .i64 x)] _
        ((repeat refine JC.seq ?_); refine JC.region ?_)
        refine JL.pure rfl rfl ?_
        refine JL.fieldAddr rfl Try.underlying52 rfl sh3 rfl ?_
        refine JL.loadB 1 H rfl sh3 rfl rfl rfl ?_
        refine JL.pure rfl rfl ?_
        refine JL.nil ?_
        ((repeat refine Ex.normal_block ?_); refine Ex.next ?_)
        ((repeat refine JC.seq ?_); refine JC.cond rfl ?_ ?_)
        · intro h18
          (try simp only [Bool.not_eq_true', Bool.not_eq_false', decide_eq_true_eq, decide_eq_false_iff_not] at h18)
          
          ((repeat refine JC.seq ?_); refine JC.skip ?_)
          ((repeat refine Ex.normal_block ?_); refine Ex.next ?_)
          ((repeat refine JC.seq ?_); refine JC.block ?_)
          ((repeat refine JC.seq ?_); refine JC.region ?_)
          refine JL.pure rfl rfl ?_
          refine JL.pure rfl rfl ?_
          refine JL.pure rfl rfl ?_
          refine JL.build s62 rfl rfl ?_
          obtain ⟨es, clock, hMi, hMb⟩ := hm.grow H.below
          refine JL.lookupB (⟨x, y⟩ : Cell) false hMb hMi rfl rfl Try.underlying202 keyCell zero4 rfl ?_
          show JL _ _ _ _ _ (Fr.put _ (Value.bool (setR m ⟨x, y⟩)) _) _
          refine JL.pure rfl rfl ?_
          refine JL.nil ?_
          ((repeat refine Ex.normal_block ?_); refine Ex.next ?_)
          ((repeat refine JC.seq ?_); refine JC.cond rfl ?_ ?_)
          · intro h26
            (try simp only [Bool.not_eq_true', Bool.not_eq_false', decide_eq_true_eq, decide_eq_false_iff_not] at h26)
            have hin : setR m ⟨x, y⟩ = false := by simpa using h26
            ((repeat refine JC.seq ?_); refine JC.exit ?_)
            (repeat (first | refine Ex.exit_then ?_ | refine Ex.exit_miss (by decide) ?_))
            refine Ex.exit_hit ?_
            ((repeat refine Ex.normal_block ?_); refine Ex.next ?_)
            ((repeat refine JC.seq ?_); refine JC.region ?_)
            refine JL.pure rfl rfl ?_
            refine JL.arith rfl (by unfold In64; omega) rfl ?_
            refine JL.pure rfl rfl ?_
            refine JL.nil ?_
            (repeat refine Ex.normal_block ?_)
            refine Ex.again (x + 1, _) ⟨rfl, rfl, rfl, rfl, rfl, trivial⟩ ⟨by simp only; omega, ?_⟩ (by simp only; omega)
            simp only
            rw [runRow1_succ, hout, rstep_no hin]
            exact H
          · intro h26
            (try simp only [Bool.not_eq_true', Bool.not_eq_false', decide_eq_true_eq, decide_eq_false_iff_not] at h26)
            have hin : setR m ⟨x, y⟩ = true := by simpa using h26
            ((repeat refine JC.seq ?_); refine JC.skip ?_)
            ((repeat refine Ex.normal_block ?_); refine Ex.next ?_)
            ((repeat refine JC.seq ?_); refine JC.region ?_)
            refine JL.pure rfl rfl ?_
            refine JL.len rfl Try.underlying50 rfl ?_
            refine JL.pure rfl rfl ?_
            refine JL.pure rfl rfl ?_
            refine JL.cases 30 rfl ?_ ?_
            · intro h30
              (try simp only [Bool.not_eq_true', Bool.not_eq_false', decide_eq_true_eq, decide_eq_false_iff_not] at h30)
              have hpos : 0 < out.length := by omega
              have hlast : out[out.length - 1]? = some out[out.length - 1] := by simp [hpos]
              obtain ⟨g2, c2, hg2, _, _, _⟩ := H.rowAt (j := 0) (e := 140) (sz := 3) (enc := Run.cs) (fun _ => rfl) rfl hlast
              simp only [Value.slice.injEq] at hg2
              obtain ⟨rfl, _, rfl⟩ := hg2
              refine JL.want rfl rfl ?_
              refine JL.pure rfl rfl ?_
              refine JL.want rfl rfl ?_
              refine JL.pure rfl rfl ?_
              refine JL.want rfl rfl ?_
              refine JL.len rfl Try.underlying50 rfl ?_
              refine JL.want rfl rfl ?_
              refine JL.arith rfl (by unfold In64; omega) rfl ?_
              refine JL.want rfl rfl ?_
              refine JL.indexS (out.length - 1) rfl rfl Try.underlying50 sh140 (by omega) (by omega) rfl ?_
              refine JL.want rfl rfl ?_
              refine JL.fieldAddr rfl Try.underlying140 rfl sh3 rfl ?_
              refine JL.want rfl rfl ?_
              refine JL.load rfl sh3 ((H.rowLd (j := 0) (e := 140) (sz := 3) (enc := Run.cs) (fun _ => rfl) rfl hlast).part 0 rfl 1) rfl ?_
              refine JL.want rfl rfl ?_
              refine JL.pure rfl rfl ?_
              refine JL.want rfl rfl ?_
              refine JL.pure rfl rfl ?_
              refine JL.pure rfl rfl ?_
              refine JL.pure rfl rfl ?_
              refine JL.cases 41 rfl ?_ ?_
              · intro h41
                (try simp only [Bool.not_eq_true', Bool.not_eq_false', decide_eq_true_eq, decide_eq_false_iff_not] at h41)
                
                refine JL.want rfl rfl ?_
                refine JL.pure rfl rfl ?_
                refine JL.want rfl rfl ?_
                refine JL.pure rfl rfl ?_
                refine JL.want rfl rfl ?_
                refine JL.len rfl Try.underlying50 rfl ?_
                refine JL.want rfl rfl ?_
                refine JL.arith rfl (by unfold In64; omega) rfl ?_
                refine JL.want rfl rfl ?_
                refine JL.indexS (out.length - 1) rfl rfl Try.underlying50 sh140 (by omega) (by omega) rfl ?_
                refine JL.want rfl rfl ?_
                refine JL.fieldAddr rfl Try.underlying140 rfl sh3 rfl ?_
                refine JL.want rfl rfl ?_
                refine JL.load rfl sh3 ((H.rowLd (j := 0) (e := 140) (sz := 3) (enc := Run.cs) (fun _ => rfl) rfl hlast).part 2 rfl 1) rfl ?_
                refine JL.want rfl rfl ?_
                refine JL.pure rfl rfl ?_
                refine JL.want rfl rfl ?_
                refine JL.pure rfl rfl ?_
                refine JL.pure rfl rfl ?_
                refine JL.nil ?_
                ((repeat refine Ex.normal_block ?_); refine Ex.next ?_)
                ((repeat refine JC.seq ?_); refine JC.cond rfl ?_ ?_)
                · intro h51
                  (try simp only [Bool.not_eq_true', Bool.not_eq_false', decide_eq_true_eq, decide_eq_false_iff_not] at h51)
                  
                  ((repeat refine JC.seq ?_); refine JC.region ?_)
                  refine JL.pure rfl rfl ?_
                  refine JL.pure rfl rfl ?_
                  refine JL.len rfl Try.underlying50 rfl ?_
                  refine JL.arith rfl (by unfold In64; omega) rfl ?_
                  refine JL.pure rfl rfl ?_
                  refine JL.arith rfl (by unfold In64; omega) rfl ?_
                  refine JL.indexS (out.length - 1) rfl rfl Try.underlying50 sh140 (by omega) (by omega) rfl ?_
                  refine JL.fieldAddr rfl Try.underlying140 rfl sh3 rfl ?_
                  refine JL.storeRowF (e := 140) (sz := 3) (o := 2) (enc := Run.cs) 0 H (fun _ => rfl) rfl out[out.length - 1] ⟨out[out.length - 1].Y, out[out.length - 1].From, x + 1⟩ rfl rfl sh3 rfl rfl hlast (by omega) rfl ?_
                  intro w2 H
                  refine JL.nil ?_
                  ((repeat refine Ex.normal_block ?_); refine Ex.next ?_)
                  ((repeat refine JC.seq ?_); refine JC.region ?_)
                  refine JL.pure rfl rfl ?_
                  refine JL.arith rfl (by unfold In64; omega) rfl ?_
                  refine JL.pure rfl rfl ?_
                  refine JL.nil ?_
                  (repeat refine Ex.normal_block ?_)
                  refine Ex.again (x + 1, _) ⟨rfl, rfl, rfl, rfl, rfl, trivial⟩ ⟨by simp only; omega, ?_⟩ (by simp only; omega)
                  simp only
                  rw [runRow1_succ, hout, rstep_join hin hlast (by omega) (by omega)]
                  exact H
                · intro h51
                  (try simp only [Bool.not_eq_true', Bool.not_eq_false', decide_eq_true_eq, decide_eq_false_iff_not] at h51)
                  have hno : ∀ l, out[out.length - 1]? = some l → ¬(l.Y = y ∧ l.To = x) := by
                    intro l hl
                    rw [hlast] at hl
                    cases hl
                    omega
                  ((repeat refine JC.seq ?_); refine JC.region ?_)
                  refine JL.pure rfl rfl ?_
                  refine JL.pure rfl rfl ?_
                  refine JL.pure rfl rfl ?_
                  refine JL.pure rfl rfl ?_
                  refine JL.arith rfl (by unfold In64; omega) rfl ?_
                  refine JL.build s140 rfl rfl ?_
                  refine JL.buildSlice H Try.underlying50 sh140 z140 rfl rfl rfl rfl rfl ?_
                  intro b66 w3 H
                  refine JL.append1 (news := Run.cs ⟨y, x, x + 1⟩) 1 0 H Try.underlying50 ap140 rfl rfl rfl rfl rfl rfl (by omega) (by omega) rfl ?_
                  intro v2 w4 H
                  replace H := H.cast (L := _ :: runRow v2 (out ++ [⟨y, x, x + 1⟩]) :: _) (by unfold runRow; rw [← trow_snoc]; rfl)
                  refine JL.pure rfl rfl ?_
                  refine JL.nil ?_
                  ((repeat refine Ex.normal_block ?_); refine Ex.next ?_)
                  ((repeat refine JC.seq ?_); refine JC.region ?_)
                  refine JL.pure rfl rfl ?_
                  refine JL.arith rfl (by unfold In64; omega) rfl ?_
                  refine JL.pure rfl rfl ?_
                  refine JL.nil ?_
                  (repeat refine Ex.normal_block ?_)
                  refine Ex.again (x + 1, _) ⟨rfl, rfl, rfl, rfl, rfl, trivial⟩ ⟨by simp only; omega, ?_⟩ (by simp only; omega)
                  simp only
                  rw [runRow1_succ, hout, rstep_app hin hno]
                  exact H.drop 0
              · intro h41
                (try simp only [Bool.not_eq_true', Bool.not_eq_false', decide_eq_true_eq, decide_eq_false_iff_not] at h41)
                have hno : ∀ l, out[out.length - 1]? = some l → ¬(l.Y = y ∧ l.To = x) := by
                  intro l hl
                  rw [hlast] at hl
                  cases hl
                  omega
                refine JL.pass rfl rfl rfl rfl ?_
                refine JL.pass rfl rfl rfl rfl ?_
                refine JL.pass rfl rfl rfl rfl ?_
                refine JL.pass rfl rfl rfl rfl ?_
                refine JL.pass rfl rfl rfl rfl ?_
                refine JL.pass rfl rfl rfl rfl ?_
                refine JL.pass rfl rfl rfl rfl ?_
                refine JL.pass rfl rfl rfl rfl ?_
                refine JL.pass rfl rfl rfl rfl ?_
                refine JL.pure rfl rfl ?_
                refine JL.nil ?_
                ((repeat refine Ex.normal_block ?_); refine Ex.next ?_)
                ((repeat refine JC.seq ?_); refine JC.cond rfl (fun h => by cases h) (fun _ => ?_))
                ((repeat refine JC.seq ?_); refine JC.region ?_)
                refine JL.pure rfl rfl ?_
                refine JL.pure rfl rfl ?_
                refine JL.pure rfl rfl ?_
                refine JL.pure rfl rfl ?_
                refine JL.arith rfl (by unfold In64; omega) rfl ?_
                refine JL.build s140 rfl rfl ?_
                refine JL.buildSlice H Try.underlying50 sh140 z140 rfl rfl rfl rfl rfl ?_
                intro b66_4 w5 H
                refine JL.append1 (news := Run.cs ⟨y, x, x + 1⟩) 1 0 H Try.underlying50 ap140 rfl rfl rfl rfl rfl rfl (by omega) (by omega) rfl ?_
                intro v2 w6 H
                replace H := H.cast (L := _ :: runRow v2 (out ++ [⟨y, x, x + 1⟩]) :: _) (by unfold runRow; rw [← trow_snoc]; rfl)
                refine JL.pure rfl rfl ?_
                refine JL.nil ?_
                ((repeat refine Ex.normal_block ?_); refine Ex.next ?_)
                ((repeat refine JC.seq ?_); refine JC.region ?_)
                refine JL.pure rfl rfl ?_
                refine JL.arith rfl (by unfold In64; omega) rfl ?_
                refine JL.pure rfl rfl ?_
                refine JL.nil ?_
                (repeat refine Ex.normal_block ?_)
                refine Ex.again (x + 1, _) ⟨rfl, rfl, rfl, rfl, rfl, trivial⟩ ⟨by simp only; omega, ?_⟩ (by simp only; omega)
                simp only
                rw [runRow1_succ, hout, rstep_app hin hno]
                exact H.drop 0
            · intro h30
              (try simp only [Bool.not_eq_true', Bool.not_eq_false', decide_eq_true_eq, decide_eq_false_iff_not] at h30)
              have hno : ∀ l, out[out.length - 1]? = some l → ¬(l.Y = y ∧ l.To = x) := by
                intro l hl
                have := (List.getElem?_eq_some_iff.1 hl).1
                omega
              refine JL.pass rfl rfl rfl rfl ?_
              refine JL.pass rfl rfl rfl rfl ?_
              refine JL.pass rfl rfl rfl rfl ?_
              refine JL.pass rfl rfl rfl rfl ?_
              refine JL.pass rfl rfl rfl rfl ?_
              refine JL.pass rfl rfl rfl rfl ?_
              refine JL.pass rfl rfl rfl rfl ?_
              refine JL.pass rfl rfl rfl rfl ?_
              refine JL.pass rfl rfl rfl rfl ?_
              refine JL.pure rfl rfl ?_
              refine JL.pure rfl rfl ?_
              refine JL.pass rfl rfl rfl rfl ?_
              refine JL.pass rfl rfl rfl rfl ?_
              refine JL.pass rfl rfl rfl rfl ?_
              refine JL.pass rfl rfl rfl rfl ?_
              refine JL.pass rfl rfl rfl rfl ?_
              refine JL.pass rfl rfl rfl rfl ?_
              refine JL.pass rfl rfl rfl rfl ?_
              refine JL.pass rfl rfl rfl rfl ?_
              refine JL.pass rfl rfl rfl rfl ?_
              refine JL.pure rfl rfl ?_
              refine JL.nil ?_
              ((repeat refine Ex.normal_block ?_); refine Ex.next ?_)
              ((repeat refine JC.seq ?_); refine JC.cond rfl (fun h => by cases h) (fun _ => ?_))
              ((repeat refine JC.seq ?_); refine JC.region ?_)
              refine JL.pure rfl rfl ?_
              refine JL.pure rfl rfl ?_
              refine JL.pure rfl rfl ?_
              refine JL.pure rfl rfl ?_
              refine JL.arith rfl (by unfold In64; omega) rfl ?_
              refine JL.build s140 rfl rfl ?_
              refine JL.buildSlice H Try.underlying50 sh140 z140 rfl rfl rfl rfl rfl ?_
              intro b66_6 w7 H
              refine JL.append1 (news := Run.cs ⟨y, x, x + 1⟩) 1 0 H Try.underlying50 ap140 rfl rfl rfl rfl rfl rfl (by omega) (by omega) rfl ?_
              intro v2 w8 H
              replace H := H.cast (L := _ :: runRow v2 (out ++ [⟨y, x, x + 1⟩]) :: _) (by unfold runRow; rw [← trow_snoc]; rfl)
              refine JL.pure rfl rfl ?_
              refine JL.nil ?_
              ((repeat refine Ex.normal_block ?_); refine Ex.next ?_)
              ((repeat refine JC.seq ?_); refine JC.region ?_)
              refine JL.pure rfl rfl ?_
              refine JL.arith rfl (by unfold In64; omega) rfl ?_
              refine JL.pure rfl rfl ?_
              refine JL.nil ?_
              (repeat refine Ex.normal_block ?_)
              refine Ex.again (x + 1, _) ⟨rfl, rfl, rfl, rfl, rfl, trivial⟩ ⟨by simp only; omega, ?_⟩ (by simp only; omega)
              simp only
              rw [runRow1_succ, hout, rstep_app hin hno]
              exact H.drop 0
        · intro h18
          (try simp only [Bool.not_eq_true', Bool.not_eq_false', decide_eq_true_eq, decide_eq_false_iff_not] at h18)
          have hxx : x = g.W.toNat := by omega
          subst hxx
          ((repeat refine JC.seq ?_); refine JC.exit ?_)
          (repeat (first | refine Ex.exit_then ?_ | refine Ex.exit_miss (by decide) ?_))
          refine Ex.exit_hit ?_
          ((repeat refine Ex.normal_block ?_); refine Ex.next ?_)
          ((repeat refine JC.seq ?_); refine JC.region ?_)
          refine JL.pure rfl rfl ?_
          refine JL.arith rfl (by unfold In64; omega) rfl ?_
          refine JL.pure rfl rfl ?_
          refine JL.nil ?_
          (repeat refine Ex.normal_block ?_)
          refine Ex.again (y + 1, _) ⟨rfl, rfl, rfl, rfl, trivial⟩ ⟨by simp only; omega, ?_⟩ (by simp only; omega)
          simp only
          rw [runAll_succ, hout]
          exact H
    · intro h12
      (try simp only [Bool.not_eq_true', Bool.not_eq_false', decide_eq_true_eq, decide_eq_false_iff_not] at h12)
      have hyy : y = g.H.toNat := by omega
      subst hyy
      have hbd := runAll_len (s := setR m) (W := g.W.toNat) g.H.toNat
      have hbd2 := nat_mul_bd (a := g.W.toNat) (b := g.H.toNat) (by omega) (by omega)
      obtain ⟨oa, oc, rfl⟩ := H.row_slice (j := 0) rfl
      ((repeat refine JC.seq ?_); refine JC.exit ?_)
      (repeat (first | refine Ex.exit_then ?_ | refine Ex.exit_miss (by decide) ?_))
      refine Ex.exit_hit ?_
      ((repeat refine Ex.normal_block ?_); refine Ex.next ?_)
      ((repeat refine JC.seq ?_); refine JC.region ?_)
      refine JL.pure rfl rfl ?_
      refine JL.len rfl Try.underlying50 rfl ?_
      refine JL.pure rfl rfl ?_
      refine JL.nil ?_
      ((repeat refine Ex.normal_block ?_); refine Ex.next ?_)
      ((repeat refine JC.seq ?_); refine JC.cond rfl ?_ ?_)
      · intro h70
        (try simp only [Bool.not_eq_true', Bool.not_eq_false', decide_eq_true_eq, decide_eq_false_iff_not] at h70)
        ((repeat refine JC.seq ?_); refine JC.region ?_)
        refine JL.pure rfl rfl ?_
        refine JL.pure rfl rfl ?_
        refine JL.nil ?_
        ((repeat refine Ex.normal_block ?_); refine Ex.next ?_)
        ((repeat refine JC.seq ?_); refine JC.ret ?_)
        (repeat (first | refine Ex.ret_then ?_ | refine Ex.ret_block ?_))
        refine Ex.ret2 rfl (.tmp rfl) (.tmp rfl) ?_
        unfold runsR
        rw [if_pos (by omega)]
        exact ⟨.slice none 0 0, rfl, ((H.drop 0).drop 0).nilRow 140 3⟩
      · intro h70
        (try simp only [Bool.not_eq_true', Bool.not_eq_false', decide_eq_true_eq, decide_eq_false_iff_not] at h70)
        ((repeat refine JC.seq ?_); refine JC.skip ?_)
        ((repeat refine Ex.normal_block ?_); refine Ex.next ?_)
        ((repeat refine JC.seq ?_); refine JC.region ?_)
        refine JL.pure rfl rfl ?_
        refine JL.pure rfl rfl ?_
        refine JL.pure rfl rfl ?_
        refine JL.nil ?_
        ((repeat refine Ex.normal_block ?_); refine Ex.next ?_)
        ((repeat refine JC.seq ?_); refine JC.ret ?_)
        (repeat (first | refine Ex.ret_then ?_ | refine Ex.ret_block ?_))
        refine Ex.ret2 rfl (.tmp rfl) (.tmp rfl) ?_
        unfold runsR
        rw [if_neg (by omega)]
        exact ⟨_, rfl, H.drop 1⟩
end Go.J

namespace Go.J
set_option linter.unusedSimpArgs false
set_option linter.unusedVariables false
/-! plain: boxes, discs and half planes as sets of cells -/
def boxRow (g : Grid) (lo hi : Spot) (y : Int) : Int × Int := if lo.Y / g.S ≤ y ∧ y ≤ hi.Y / g.S then (lo.X / g.S, hi.X / g.S) else (0, -1)
def boxR (g : Grid) (lo hi : Spot) : List Run × Int := if g.ok && (lo.ok && hi.ok) && decide (lo.X ≤ hi.X ∧ lo.Y ≤ hi.Y) then regRes (fillT g.W g.H (boxRow g lo hi) g.H.toNat) else ([], 2)
def inBox (g : Grid) (lo hi : Spot) (c : Cell) : Prop := c.X * g.S ≤ hi.X ∧ lo.X ≤ c.X * g.S + g.S - 1 ∧ c.Y * g.S ≤ hi.Y ∧ lo.Y ≤ c.Y * g.S + g.S - 1
theorem le_div {S c h : Int} (hS : 1 ≤ S) : c ≤ h / S ↔ c * S ≤ h := Int.le_ediv_iff_mul_le (by omega)
theorem div_le {S c l : Int} (hS : 1 ≤ S) : l / S ≤ c ↔ l ≤ c * S + S - 1 := by
  have h : l / S < c + 1 ↔ l < (c + 1) * S := Int.ediv_lt_iff_lt_mul (by omega)
  rw [Int.add_mul, Int.one_mul] at h
  omega
theorem box_has {g : Grid} (hg : g.ok = true) {lo hi : Spot} (c : Cell) : hasB (regR (fillT g.W g.H (boxRow g lo hi) g.H.toNat)) c = true ↔ inG g c ∧ inBox g lo hi c := by
  obtain ⟨hW, hH, hS, _⟩ := Grid.ok_b hg
  rw [fill_has hH]
  unfold boxRow inBox
  have e1 := le_div (c := c.X) (h := hi.X) hS.1
  have e2 := le_div (c := c.Y) (h := hi.Y) hS.1
  have e3 := div_le (c := c.X) (l := lo.X) hS.1
  have e4 := div_le (c := c.Y) (l := lo.Y) hS.1
  refine and_congr_right fun hc => ?_
  unfold inG at hc
  split <;> simp only <;> omega
theorem boxR_eq {g : Grid} {lo hi : Spot} (hg : g.ok = true) (hl : lo.ok = true) (hh : hi.ok = true) (h : lo.X ≤ hi.X ∧ lo.Y ≤ hi.Y) {s : Cell → Bool} (hs : ∀ c, inG g c → (s c = true ↔ inBox g lo hi c)) : boxR g lo hi = runsR g s := by
  obtain ⟨hW, hH, hS, _⟩ := Grid.ok_b hg
  unfold boxR
  rw [hg, hl, hh]
  simp only [Bool.and_self, Bool.true_and, decide_eq_true h, if_true]
  exact regRes_runs (by omega) (by omega) (fillT_good _ _ _ _) (fill_low _ _ _ _) s fun c => (box_has hg c).trans (and_congr_right fun hc => (hs c hc).symm)
theorem discR_eq {g : Grid} {p : Spot} {r : Int} (hg : g.ok = true) (hp : p.ok = true) (hr : 0 ≤ r ∧ r ≤ 16777216) {s : Cell → Bool} (hs : ∀ c, inG g c → (s c = true ↔ awayI g.S p.X c.X * awayI g.S p.X c.X + awayI g.S p.Y c.Y * awayI g.S p.Y c.Y ≤ r * r)) : discR g p r = runsR g s := by
  obtain ⟨hW, hH, hS, _⟩ := Grid.ok_b hg
  unfold discR
  rw [hg, hp]
  simp only [Bool.and_self, Bool.true_and, decide_eq_true hr, if_true]
  exact regRes_runs (by omega) (by omega) (fillT_good _ _ _ _) (fill_low _ _ _ _) s fun c => (disc_has hg hr c).trans (and_congr_right fun hc => (hs c hc).symm)
theorem halfR_eq {g : Grid} {a b : Spot} (hg : g.ok = true) (ha : a.ok = true) (hb : b.ok = true) (hne : a ≠ b) {s : Cell → Bool} (hs : ∀ c, inG g c → (s c = true ↔ leftI g a b c = true)) : halfR g a b = runsR g s := by
  obtain ⟨hW, hH, hS, _⟩ := Grid.ok_b hg
  unfold halfR
  rw [hg, ha, hb]
  simp only [Bool.and_self, Bool.true_and, decide_eq_true hne, if_true]
  exact regRes_runs (by omega) (by omega) (fillT_good _ _ _ _) (fill_low _ _ _ _) s fun c => (half_has hg c).trans (and_congr_right fun hc => (hs c hc).symm)
/-- a corner of a cell is to the left -/
def cornI (g : Grid) (a b : Spot) (c : Cell) (i : Nat) : Int := (b.X - a.X) * (c.Y * g.S + ((i / 2 : Nat) : Int) * (g.S - 1) - a.Y) - (b.Y - a.Y) * (c.X * g.S + ((i % 2 : Nat) : Int) * (g.S - 1) - a.X)
theorem corner_left {g : Grid} (hS : 1 ≤ g.S) {a b : Spot} {c : Cell} : (∃ i, i < 4 ∧ 0 ≤ cornI g a b c i) ↔ leftI g a b c = true := by
  unfold leftI
  rw [decide_eq_true_eq]
  generalize hu : b.X - a.X = u
  generalize hv : b.Y - a.Y = v
  have hx : ∀ i : Nat, i < 4 → u * (c.Y * g.S + ((i / 2 : Nat) : Int) * (g.S - 1) - a.Y) ≤ u * ((if u > 0 then c.Y * g.S + (g.S - 1) else c.Y * g.S) - a.Y) := by
    intro i hi
    have hb : 0 ≤ ((i / 2 : Nat) : Int) * (g.S - 1) ∧ ((i / 2 : Nat) : Int) * (g.S - 1) ≤ g.S - 1 := by
      rcases (show i / 2 = 0 ∨ i / 2 = 1 by omega) with h | h <;> rw [h] <;> simp <;> omega
    split
    · exact Int.mul_le_mul_of_nonneg_left (by omega) (by omega)
    · exact Int.mul_le_mul_of_nonpos_left (by omega) (by omega)
  have hy : ∀ i : Nat, i < 4 → v * ((if v < 0 then c.X * g.S + (g.S - 1) else c.X * g.S) - a.X) ≤ v * (c.X * g.S + ((i % 2 : Nat) : Int) * (g.S - 1) - a.X) := by
    intro i hi
    have hb : 0 ≤ ((i % 2 : Nat) : Int) * (g.S - 1) ∧ ((i % 2 : Nat) : Int) * (g.S - 1) ≤ g.S - 1 := by
      rcases (show i % 2 = 0 ∨ i % 2 = 1 by omega) with h | h <;> rw [h] <;> simp <;> omega
    split
    · exact Int.mul_le_mul_of_nonpos_left (by omega) (by omega)
    · exact Int.mul_le_mul_of_nonneg_left (by omega) (by omega)
  constructor
  · rintro ⟨i, hi, h⟩
    unfold cornI at h
    rw [hu, hv] at h
    have := hx i hi
    have := hy i hi
    omega
  · intro h
    refine ⟨(if u > 0 then 2 else 0) + (if v < 0 then 1 else 0), by split <;> split <;> omega, ?_⟩
    unfold cornI
    rw [hu, hv]
    by_cases h1 : u > 0 <;> by_cases h2 : v < 0 <;> simp [h1, h2] at h ⊢ <;> omega
end Go.J

namespace Go.J
open Go.RowKit Go.Proofs
set_option maxRecDepth 8000
set_option linter.unusedSimpArgs false
set_option linter.unusedVariables false
theorem box1_c (g : Grid) (lv : Value) (lo hi : Spot) (y so no : Int) (β1 β2 β3 β4 β5 : Nat) (w : World) (h1 : β1 < w.heap.size) (h2 : β2 < w.heap.size) (h3 : β3 < w.heap.size) (h4 : β4 < w.heap.size) (h5 : β5 < w.heap.size)
    (g1 : LdAt w β1 0 (false, 1) (.int .i64 so)) (g2 : LdAt w β2 0 (false, 1) (.int .i64 no)) (g3 : LdAt w β3 0 (true, 2) lo.ev) (g4 : LdAt w β4 0 (true, 4) (g.ev lv)) (g5 : LdAt w β5 0 (true, 2) hi.ev)
    (hso : so = lo.Y / g.S) (hno : no = hi.Y / g.S) (hS : 1 ≤ g.S ∧ g.S ≤ 50000) (hl : lo.ok = true) (hh : hi.ok = true) :
    Pur Try.prog 169 #[.int .i64 y, .pointer (some ⟨β1, 0, none⟩), .pointer (some ⟨β2, 0, none⟩), .pointer (some ⟨β3, 0, none⟩), .pointer (some ⟨β4, 0, none⟩), .pointer (some ⟨β5, 0, none⟩)] w (.tuple #[.int .i64 (boxRow g lo hi y).1, .int .i64 (boxRow g lo hi y).2]) := by
  refine pur_J (args := [.int .i64 y, .pointer (some ⟨β1, 0, none⟩), .pointer (some ⟨β2, 0, none⟩), .pointer (some ⟨β3, 0, none⟩), .pointer (some ⟨β4, 0, none⟩), .pointer (some ⟨β5, 0, none⟩)]) Try.func169 rfl Try.ntmps169 rfl ?_
  have H := Own.start w
  have hsb := Spot.ok_b hl
  have hsc := Spot.ok_b hh
  ((repeat refine JC.seq ?_); refine JC.region ?_)
  refine JL.pure rfl rfl ?_
  refine JL.pure rfl rfl ?_
  refine JL.nil ?_
  ((repeat refine Ex.normal_block ?_); refine Ex.next ?_)
  ((repeat refine JC.seq ?_); refine JC.region ?_)
  refine JL.pure rfl rfl ?_
  refine JL.load rfl sh3 (g1.grow h1 H.below) rfl ?_
  refine JL.load rfl sh3 (g2.grow h2 H.below) rfl ?_
  refine JL.callP H fb144 rfl rfl (within_c _ _ _ _) ?_
  intro w1 H _
  refine JL.pure rfl rfl ?_
  refine JL.nil ?_
  ((repeat refine Ex.normal_block ?_); refine Ex.next ?_)
  ((repeat refine JC.seq ?_); refine JC.cond rfl ?_ ?_)
  · intro h13
    (try simp only [Bool.not_eq_true', Bool.not_eq_false', decide_eq_true_eq, decide_eq_false_iff_not] at h13)
    have h13 : ¬(so ≤ y ∧ y ≤ no) := by simpa using h13
    ((repeat refine JC.seq ?_); refine JC.region ?_)
    refine JL.pure rfl rfl ?_
    refine JL.pure rfl rfl ?_
    refine JL.nil ?_
    ((repeat refine Ex.normal_block ?_); refine Ex.next ?_)
    ((repeat refine JC.seq ?_); refine JC.ret ?_)
    (repeat (first | refine Ex.ret_then ?_ | refine Ex.ret_block ?_))
    refine Ex.ret2 rfl (.tmp rfl) (.tmp rfl) ⟨?_, H.below⟩
    unfold boxRow; rw [← hso, ← hno, if_neg h13]
  · intro h13
    (try simp only [Bool.not_eq_true', Bool.not_eq_false', decide_eq_true_eq, decide_eq_false_iff_not] at h13)
    have h13 : so ≤ y ∧ y ≤ no := by simpa using h13
    ((repeat refine JC.seq ?_); refine JC.skip ?_)
    ((repeat refine Ex.normal_block ?_); refine Ex.next ?_)
    ((repeat refine JC.seq ?_); refine JC.draw 12 H mixed (by kernel_rfl) rfl ?_)
    refine JD.fieldAddr rfl Try.underlying23 rfl sh3 rfl ?_
    refine JD.load rfl sh3 (fun w hw => (g3.part 0 rfl 1).grow h3 hw.below) rfl ?_
    refine JD.fieldAddr rfl Try.underlying52 rfl sh3 rfl ?_
    refine JD.load rfl sh3 (fun w hw => (g4.part 2 rfl 1).grow h4 hw.below) rfl ?_
    refine JD.call fb143 rfl rfl (fun w hw => floor_c _ _ w (by omega) (by omega) (by omega)) ?_
    refine JD.fieldAddr rfl Try.underlying23 rfl sh3 rfl ?_
    refine JD.load rfl sh3 (fun w hw => (g5.part 0 rfl 1).grow h5 hw.below) rfl ?_
    refine JD.fieldAddr rfl Try.underlying52 rfl sh3 rfl ?_
    refine JD.load rfl sh3 (fun w hw => (g4.part 2 rfl 1).grow h4 hw.below) rfl ?_
    refine JD.call fb143 rfl rfl (fun w hw => floor_c _ _ w (by omega) (by omega) (by omega)) ?_
    refine JD.pure rfl rfl ?_
    refine JD.pure rfl rfl ?_
    refine JD.nil ?_
    intro w2 H
    show JL _ _ _ _ _ _ _
    refine JL.nil ?_
    ((repeat refine Ex.normal_block ?_); refine Ex.next ?_)
    ((repeat refine JC.seq ?_); refine JC.ret ?_)
    (repeat (first | refine Ex.ret_then ?_ | refine Ex.ret_block ?_))
    refine Ex.ret2 rfl (.tmp rfl) (.tmp rfl) ⟨?_, H.below⟩
    unfold boxRow; rw [← hso, ← hno, if_pos h13]
theorem boxRow_bd {g : Grid} {lo hi : Spot} {y : Int} (hS : 1 ≤ g.S) (hh : hi.ok = true) : -1000000000000 ≤ (boxRow g lo hi y).2 ∧ (boxRow g lo hi y).2 ≤ 1000000000000 := by
  have hsc := Spot.ok_b hh
  unfold boxRow
  split
  · have := ediv_bd (a := hi.X) (M := 100000000) hS (by omega) (by omega) (by omega)
    simp only
    omega
  · simp
theorem box_c (g : Grid) (lv : Value) (lo hi : Spot) (w : World) (hl : SlR w lv g.land) : Calls Try.prog 79 #[g.ev lv, lo.ev, hi.ev] w (fun e w' => ResR w w' [] (boxR g lo hi) e) := by
  refine calls_J (args := [g.ev lv, lo.ev, hi.ev]) Try.func79 rfl Try.ntmps79 rfl ?_
  have H := Own.start w
  ((repeat refine JC.seq ?_); refine JC.region ?_)
  refine JL.box H rfl rfl rfl ?_
  intro b3 w1 H
  refine JL.box H rfl rfl rfl ?_
  intro b4 w2 H
  refine JL.box H rfl rfl rfl ?_
  intro b5 w3 H
  refine JL.pure rfl rfl ?_
  refine JL.pure rfl rfl ?_
  refine JL.nil ?_
  ((repeat refine Ex.normal_block ?_); refine Ex.next ?_)
  ((repeat refine JC.seq ?_); refine JC.region ?_)
  refine JL.loadB 2 H rfl sh52 rfl rfl rfl ?_
  refine JL.callP H fb141 rfl rfl (checkGrid_c g lv _ (hl.grow H.below)) ?_
  intro w4 H _
  refine JL.pure rfl rfl ?_
  refine JL.pure rfl rfl ?_
  refine JL.cases 13 rfl ?_ ?_
  · intro h13
    (try simp only [Bool.not_eq_true', Bool.not_eq_false', decide_eq_true_eq, decide_eq_false_iff_not] at h13)
    have hok : g.ok = false := by
      cases hc : g.ok with
      | false => rfl
      | true => exfalso; rw [hc] at h13; simp at h13
    refine JL.pass rfl rfl rfl rfl ?_
    refine JL.pass rfl rfl rfl rfl ?_
    refine JL.pass rfl rfl rfl rfl ?_
    refine JL.pass rfl rfl rfl rfl ?_
    refine JL.pass rfl rfl rfl rfl ?_
    refine JL.pure rfl rfl ?_
    refine JL.pure rfl rfl ?_
    refine JL.pass rfl rfl rfl rfl ?_
    refine JL.pass rfl rfl rfl rfl ?_
    refine JL.pass rfl rfl rfl rfl ?_
    refine JL.pass rfl rfl rfl rfl ?_
    refine JL.pass rfl rfl rfl rfl ?_
    refine JL.pure rfl rfl ?_
    refine JL.pure rfl rfl ?_
    refine JL.pass rfl rfl rfl rfl ?_
    refine JL.pass rfl rfl rfl rfl ?_
    refine JL.pass rfl rfl rfl rfl ?_
    refine JL.pass rfl rfl rfl rfl ?_
    refine JL.pass rfl rfl rfl rfl ?_
    refine JL.pure rfl rfl ?_
    refine JL.nil ?_
    ((repeat refine Ex.normal_block ?_); refine Ex.next ?_)
    ((repeat refine JC.seq ?_); refine JC.cond rfl (fun _ => ?_) (fun h => by cases h))
    ((repeat refine JC.seq ?_); refine JC.region ?_)
    refine JL.pure rfl rfl ?_
    refine JL.pure rfl rfl ?_
    refine JL.nil ?_
    ((repeat refine Ex.normal_block ?_); refine Ex.next ?_)
    ((repeat refine JC.seq ?_); refine JC.ret ?_)
    (repeat (first | refine Ex.ret_then ?_ | refine Ex.ret_block ?_))
    refine Ex.ret2 rfl (.tmp rfl) (.tmp rfl) ?_
    unfold boxR ResR; rw [hok]
    exact ⟨_, rfl, (((H.drop 0).drop 0).drop 0).nilRow 140 3⟩
  · intro h13
    (try simp only [Bool.not_eq_true', Bool.not_eq_false', decide_eq_true_eq, decide_eq_false_iff_not] at h13)
    have hok : g.ok = true := by
      cases hc : g.ok with
      | true => rfl
      | false => exfalso; rw [hc] at h13; simp at h13
    obtain ⟨hgW, hgH, hgS, hgl⟩ := Grid.ok_b hok
    refine JL.want rfl rfl ?_
    refine JL.loadB 1 H rfl sh23 rfl rfl rfl ?_
    refine JL.want rfl rfl ?_
    refine JL.loadB 0 H rfl sh23 rfl rfl rfl ?_
    refine JL.want rfl rfl ?_
    refine JL.buildSlice H Try.underlying27 sh23 z23 rfl rfl rfl rfl rfl ?_
    intro b16 w5 H
    refine JL.want rfl rfl ?_
    refine JL.callP H fb142 rfl rfl (near_c _ [lo, hi] _ (H.blkSl (j := 0) (enc := fun s : Spot => [.int .i64 s.X, .int .i64 s.Y]) rfl [lo, hi] rfl (fun _ => rfl) (by simp))) ?_
    intro w6 H _
    refine JL.want rfl rfl ?_
    refine JL.pure rfl rfl ?_
    refine JL.pure rfl rfl ?_
    refine JL.pure rfl rfl ?_
    refine JL.cases 20 rfl ?_ ?_
    · intro h20
      (try simp only [Bool.not_eq_true', Bool.not_eq_false', decide_eq_true_eq, decide_eq_false_iff_not] at h20)
      have hs : (lo.ok && hi.ok) = false := by simpa using h20
      refine JL.pass rfl rfl rfl rfl ?_
      refine JL.pass rfl rfl rfl rfl ?_
      refine JL.pass rfl rfl rfl rfl ?_
      refine JL.pass rfl rfl rfl rfl ?_
      refine JL.pass rfl rfl rfl rfl ?_
      refine JL.pure rfl rfl ?_
      refine JL.pure rfl rfl ?_
      refine JL.pass rfl rfl rfl rfl ?_
      refine JL.pass rfl rfl rfl rfl ?_
      refine JL.pass rfl rfl rfl rfl ?_
      refine JL.pass rfl rfl rfl rfl ?_
      refine JL.pass rfl rfl rfl rfl ?_
      refine JL.pure rfl rfl ?_
      refine JL.nil ?_
      ((repeat refine Ex.normal_block ?_); refine Ex.next ?_)
      ((repeat refine JC.seq ?_); refine JC.cond rfl (fun _ => ?_) (fun h => by cases h))
      ((repeat refine JC.seq ?_); refine JC.region ?_)
      refine JL.pure rfl rfl ?_
      refine JL.pure rfl rfl ?_
      refine JL.nil ?_
      ((repeat refine Ex.normal_block ?_); refine Ex.next ?_)
      ((repeat refine JC.seq ?_); refine JC.ret ?_)
      (repeat (first | refine Ex.ret_then ?_ | refine Ex.ret_block ?_))
      refine Ex.ret2 rfl (.tmp rfl) (.tmp rfl) ?_
      unfold boxR ResR; rw [hok, hs]
      exact ⟨_, rfl, ((((H.drop 0).drop 0).drop 0).drop 0).nilRow 140 3⟩
    · intro h20
      (try simp only [Bool.not_eq_true', Bool.not_eq_false', decide_eq_true_eq, decide_eq_false_iff_not] at h20)
      have hab : lo.ok = true ∧ hi.ok = true := by simpa using h20
      have hs : (lo.ok && hi.ok) = true := by simp [hab]
      have hlb := Spot.ok_b hab.1
      have hhb := Spot.ok_b hab.2
      refine JL.want rfl rfl ?_
      refine JL.fieldAddr rfl Try.underlying23 rfl sh3 rfl ?_
      refine JL.want rfl rfl ?_
      refine JL.loadB 2 H rfl sh3 rfl rfl rfl ?_
      refine JL.want rfl rfl ?_
      refine JL.fieldAddr rfl Try.underlying23 rfl sh3 rfl ?_
      refine JL.want rfl rfl ?_
      refine JL.loadB 1 H rfl sh3 rfl rfl rfl ?_
      refine JL.want rfl rfl ?_
      refine JL.pure rfl rfl ?_
      refine JL.pure rfl rfl ?_
      refine JL.pure rfl rfl ?_
      refine JL.cases 27 rfl ?_ ?_
      · intro h27
        (try simp only [Bool.not_eq_true', Bool.not_eq_false', decide_eq_true_eq, decide_eq_false_iff_not] at h27)
        refine JL.pass rfl rfl rfl rfl ?_
        refine JL.pass rfl rfl rfl rfl ?_
        refine JL.pass rfl rfl rfl rfl ?_
        refine JL.pass rfl rfl rfl rfl ?_
        refine JL.pass rfl rfl rfl rfl ?_
        refine JL.pure rfl rfl ?_
        refine JL.nil ?_
        ((repeat refine Ex.normal_block ?_); refine Ex.next ?_)
        ((repeat refine JC.seq ?_); refine JC.cond rfl (fun _ => ?_) (fun h => by cases h))
        ((repeat refine JC.seq ?_); refine JC.region ?_)
        refine JL.pure rfl rfl ?_
        refine JL.pure rfl rfl ?_
        refine JL.nil ?_
        ((repeat refine Ex.normal_block ?_); refine Ex.next ?_)
        ((repeat refine JC.seq ?_); refine JC.ret ?_)
        (repeat (first | refine Ex.ret_then ?_ | refine Ex.ret_block ?_))
        refine Ex.ret2 rfl (.tmp rfl) (.tmp rfl) ?_
        unfold boxR ResR; rw [hok, hs, decide_eq_false (by omega)]
        exact ⟨_, rfl, ((((H.drop 0).drop 0).drop 0).drop 0).nilRow 140 3⟩
      · intro h27
        (try simp only [Bool.not_eq_true', Bool.not_eq_false', decide_eq_true_eq, decide_eq_false_iff_not] at h27)
        refine JL.want rfl rfl ?_
        refine JL.fieldAddr rfl Try.underlying23 rfl sh3 rfl ?_
        refine JL.want rfl rfl ?_
        refine JL.loadB 2 H rfl sh3 rfl rfl rfl ?_
        refine JL.want rfl rfl ?_
        refine JL.fieldAddr rfl Try.underlying23 rfl sh3 rfl ?_
        refine JL.want rfl rfl ?_
        refine JL.loadB 1 H rfl sh3 rfl rfl rfl ?_
        refine JL.want rfl rfl ?_
        refine JL.pure rfl rfl ?_
        refine JL.pure rfl rfl ?_
        refine JL.nil ?_
        ((repeat refine Ex.normal_block ?_); refine Ex.next ?_)
        ((repeat refine JC.seq ?_); refine JC.cond rfl ?_ ?_)
        · intro h33
          (try simp only [Bool.not_eq_true', Bool.not_eq_false', decide_eq_true_eq, decide_eq_false_iff_not] at h33)
          ((repeat refine JC.seq ?_); refine JC.region ?_)
          refine JL.pure rfl rfl ?_
          refine JL.pure rfl rfl ?_
          refine JL.nil ?_
          ((repeat refine Ex.normal_block ?_); refine Ex.next ?_)
          ((repeat refine JC.seq ?_); refine JC.ret ?_)
          (repeat (first | refine Ex.ret_then ?_ | refine Ex.ret_block ?_))
          refine Ex.ret2 rfl (.tmp rfl) (.tmp rfl) ?_
          unfold boxR ResR; rw [hok, hs, decide_eq_false (by omega)]
          exact ⟨_, rfl, ((((H.drop 0).drop 0).drop 0).drop 0).nilRow 140 3⟩
        · intro h33
          (try simp only [Bool.not_eq_true', Bool.not_eq_false', decide_eq_true_eq, decide_eq_false_iff_not] at h33)
          ((repeat refine JC.seq ?_); refine JC.skip ?_)
          ((repeat refine Ex.normal_block ?_); refine Ex.next ?_)
          ((repeat refine JC.seq ?_); refine JC.draw 14 H mixed (by kernel_rfl) rfl ?_)
          refine JD.fieldAddr rfl Try.underlying23 rfl sh3 rfl ?_
          refine JD.loadB 2 rfl sh3 rfl rfl rfl ?_
          refine JD.fieldAddr rfl Try.underlying52 rfl sh3 rfl ?_
          refine JD.loadB 3 rfl sh3 rfl rfl rfl ?_
          refine JD.call fb143 rfl rfl (fun w hw => floor_c _ _ w (by omega) (by omega) (by omega)) ?_
          refine JD.fieldAddr rfl Try.underlying23 rfl sh3 rfl ?_
          refine JD.loadB 1 rfl sh3 rfl rfl rfl ?_
          refine JD.fieldAddr rfl Try.underlying52 rfl sh3 rfl ?_
          refine JD.loadB 3 rfl sh3 rfl rfl rfl ?_
          refine JD.call fb143 rfl rfl (fun w hw => floor_c _ _ w (by omega) (by omega) (by omega)) ?_
          refine JD.allocS 12 (.tmp 38) z3 rfl rfl ?_
          refine JD.allocS 13 (.tmp 43) z3 rfl rfl ?_
          refine JD.storeF rfl rfl rfl sh3 rfl rfl rfl ?_
          refine JD.storeF rfl rfl rfl sh3 rfl rfl rfl ?_
          refine JD.nil ?_
          intro w7 v9 v8 H
          obtain ⟨b8, rfl, H⟩ := H.ptr (j := 0) rfl
          obtain ⟨b9, rfl, H⟩ := H.ptr (j := 1) rfl
          show JL _ _ _ _ _ _ _
          refine JL.nil ?_
          ((repeat refine Ex.normal_block ?_); refine Ex.next ?_)
          ((repeat refine JC.seq ?_); refine JC.region ?_)
          refine JL.loadB 5 H rfl sh52 rfl rfl rfl ?_
          refine JL.pure rfl rfl ?_
          have hg1 := H.get (i := 0) rfl
          have l1 := lt_of_block hg1.2
          have hg2 := H.get (i := 1) rfl
          have l2 := lt_of_block hg2.2
          have hg3 := H.get (i := 4) rfl
          have l3 := lt_of_block hg3.2
          have hg4 := H.get (i := 5) rfl
          have l4 := lt_of_block hg4.2
          have hg5 := H.get (i := 3) rfl
          have l5 := lt_of_block hg5.2
          have hle : lo.X ≤ hi.X ∧ lo.Y ≤ hi.Y := by omega
          refine JL.call fb163 rfl rfl (filled_c g lv 169 [.pointer (some ⟨b8, 0, none⟩), .pointer (some ⟨b9, 0, none⟩), .pointer (some ⟨b4, 0, none⟩), .pointer (some ⟨b3, 0, none⟩), .pointer (some ⟨b5, 0, none⟩)] (boxRow g lo hi) _ hgW hgH fb169 (fun w' hb' y hy0 hy1 => ⟨box1_c g lv lo hi y _ _ b8 b9 b4 b3 b5 w' (Nat.lt_of_lt_of_le l1 hb'.size) (Nat.lt_of_lt_of_le l2 hb'.size) (Nat.lt_of_lt_of_le l3 hb'.size) (Nat.lt_of_lt_of_le l4 hb'.size) (Nat.lt_of_lt_of_le l5 hb'.size) ((LdAt.of_block hg1.2 rfl).grow l1 hb') ((LdAt.of_block hg2.2 rfl).grow l2 hb') ((LdAt.of_block hg3.2 rfl).grow l3 hb') ((LdAt.of_block hg4.2 rfl).grow l4 hb') ((LdAt.of_block hg5.2 rfl).grow l5 hb') rfl rfl hgS hab.1 hab.2, boxRow_bd hgS.1 hab.2⟩)) ?_
          rintro _ w8 ⟨rv, rfl, K⟩
          have H := H.join K
          refine ⟨_, rfl, ?_⟩
          refine JL.pure rfl rfl ?_
          refine JL.pure rfl rfl ?_
          refine JL.pure rfl rfl ?_
          refine JL.pure rfl rfl ?_
          refine JL.nil ?_
          ((repeat refine Ex.normal_block ?_); refine Ex.next ?_)
          ((repeat refine JC.seq ?_); refine JC.ret ?_)
          (repeat (first | refine Ex.ret_then ?_ | refine Ex.ret_block ?_))
          refine Ex.ret2 rfl (.tmp rfl) (.tmp rfl) ?_
          unfold boxR; rw [hok, hs]
          simp only [Bool.and_self, Bool.true_and, decide_eq_true hle, if_true]
          exact ⟨_, rfl, ((((((H.drop 1).drop 1).drop 1).drop 1).drop 1).drop 1)⟩
end Go.J

namespace Go.J
open Go.RowKit Go.Proofs
set_option maxRecDepth 8000
set_option linter.unusedSimpArgs false
set_option linter.unusedVariables false
theorem near175_c (n S cell : Int) (w : World) (hm : 0 ≤ cell * S ∧ cell * S ≤ 12800000) (hS : 1 ≤ S ∧ S ≤ 50000) (hn : -16777216 ≤ n ∧ n ≤ 16777216) :
    Pur Try.prog 175 #[.int .i64 n, .int .i64 (cell * S), .int .i64 (cell * S + S - 1)] w (.int .i64 (awayI S n cell)) := by
  refine pur_J (args := [.int .i64 n, .int .i64 (cell * S), .int .i64 (cell * S + S - 1)]) Try.func175 rfl Try.ntmps175 rfl ?_
  have H := Own.start w
  ((repeat refine JC.seq ?_); refine JC.region ?_)
  refine JL.pure rfl rfl ?_
  refine JL.nil ?_
  ((repeat refine Ex.normal_block ?_); refine Ex.next ?_)
  ((repeat refine JC.seq ?_); refine JC.region ?_)
  refine JL.pure rfl rfl ?_
  refine JL.pure rfl rfl ?_
  refine JL.arith rfl (by unfold In64; omega) rfl ?_
  refine JL.pure rfl rfl ?_
  refine JL.pure rfl rfl ?_
  refine JL.arith rfl (by unfold In64; omega) rfl ?_
  refine JL.pure rfl rfl ?_
  refine JL.pure rfl rfl ?_
  refine JL.pure rfl rfl ?_
  refine JL.nil ?_
  ((repeat refine Ex.normal_block ?_); refine Ex.next ?_)
  ((repeat refine JC.seq ?_); refine JC.ret ?_)
  (repeat (first | refine Ex.ret_then ?_ | refine Ex.ret_block ?_))
  refine Ex.ret1 rfl (.tmp rfl) ⟨?_, H.below⟩
  unfold awayI
  congr 2
  omega
theorem put_step {l : List Cell} {k : Nat} (hk : k < l.length) {S : Cell → Prop} {b : Bool} (hb : b = true ↔ S l[k]) (c : Cell) : ((c = l[k] ∧ b = true) ∨ (c ≠ l[k] ∧ (c ∈ l.take k ∧ S c))) ↔ (c ∈ l.take (k + 1) ∧ S c) := by
  rw [List.take_succ_eq_append_getElem hk, List.mem_append, List.mem_singleton]
  by_cases hc : c = l[k]
  · subst hc; simp [hb]
  · simp [hc]
theorem set_all {g : Grid} (hW : 0 ≤ g.W) (hH : 0 ≤ g.H) {m : List (Cell × Bool)} {S : Cell → Prop} (hm : MSet m (fun c => c ∈ everyR g.W.toNat g.H.toNat ∧ S c)) (c : Cell) (hc : inG g c) : setR m c = true ↔ S c := by
  unfold setR
  rw [hm c]
  exact ⟨fun h => h.2, fun h => ⟨(every_inG hW hH).2 hc, h⟩⟩
theorem discR_c (g : Grid) (lv : Value) (s : Spot) (radius : Int) (w : World) (hl : SlR w lv g.land) : Calls Try.prog 81 #[g.ev lv, s.ev, .int .i64 radius] w (fun e w' => ResR w w' [] (discR g s radius) e) := by
  obtain ⟨la, lc, rfl⟩ := hl.len
  refine calls_J (args := [g.ev (.slice la g.land.length lc), s.ev, .int .i64 radius]) Try.func81 rfl Try.ntmps81 rfl ?_
  have H := Own.start w
  ((repeat refine JC.seq ?_); refine JC.region ?_)
  refine JL.box H rfl rfl rfl ?_
  intro b3 w1 H
  refine JL.box H rfl rfl rfl ?_
  intro b4 w2 H
  refine JL.pure rfl rfl ?_
  refine JL.pure rfl rfl ?_
  refine JL.nil ?_
  ((repeat refine Ex.normal_block ?_); refine Ex.next ?_)
  ((repeat refine JC.seq ?_); refine JC.region ?_)
  refine JL.loadB 1 H rfl sh52 rfl rfl rfl ?_
  refine JL.callP H fb170 rfl rfl (gridR_c g _ _ (hl.grow H.below)) ?_
  intro w3 H _
  refine JL.pure rfl rfl ?_
  refine JL.nil ?_
  ((repeat refine Ex.normal_block ?_); refine Ex.next ?_)
  ((repeat refine JC.seq ?_); refine JC.region ?_)
  refine JL.loadB 0 H rfl sh23 rfl rfl rfl ?_
  refine JL.callP H fb171 rfl rfl (spotR_c _ _) ?_
  intro w4 H _
  refine JL.pure rfl rfl ?_
  refine JL.nil ?_
  ((repeat refine Ex.normal_block ?_); refine Ex.next ?_)
  ((repeat refine JC.seq ?_); refine JC.region ?_)
  refine JL.pure rfl rfl ?_
  refine JL.pure rfl rfl ?_
  refine JL.pure rfl rfl ?_
  refine JL.cases 21 rfl ?_ ?_
  · intro h21
    (try simp only [Bool.not_eq_true', Bool.not_eq_false', decide_eq_true_eq, decide_eq_false_iff_not] at h21)
    have hok : g.ok = false := by simpa using h21
    refine JL.pass rfl rfl rfl rfl ?_
    refine JL.pass rfl rfl rfl rfl ?_
    refine JL.pure rfl rfl ?_
    refine JL.pure rfl rfl ?_
    refine JL.pass rfl rfl rfl rfl ?_
    refine JL.pass rfl rfl rfl rfl ?_
    refine JL.pass rfl rfl rfl rfl ?_
    refine JL.pure rfl rfl ?_
    refine JL.nil ?_
    ((repeat refine Ex.normal_block ?_); refine Ex.next ?_)
    ((repeat refine JC.seq ?_); refine JC.cond rfl (fun _ => ?_) (fun h => by cases h))
    ((repeat refine JC.seq ?_); refine JC.region ?_)
    refine JL.pure rfl rfl ?_
    refine JL.pure rfl rfl ?_
    refine JL.nil ?_
    ((repeat refine Ex.normal_block ?_); refine Ex.next ?_)
    ((repeat refine JC.seq ?_); refine JC.ret ?_)
    (repeat (first | refine Ex.ret_then ?_ | refine Ex.ret_block ?_))
    refine Ex.ret2 rfl (.tmp rfl) (.tmp rfl) ?_
    unfold discR ResR; rw [hok]
    exact ⟨.slice none 0 0, rfl, ((H.drop 0).drop 0).nilRow 140 3⟩
  · intro h21
    (try simp only [Bool.not_eq_true', Bool.not_eq_false', decide_eq_true_eq, decide_eq_false_iff_not] at h21)
    have hok : g.ok = true := by simpa using h21
    obtain ⟨hgW, hgH, hgS, hgl⟩ := Grid.ok_b hok
    refine JL.want rfl rfl ?_
    refine JL.pure rfl rfl ?_
    refine JL.want rfl rfl ?_
    refine JL.pure rfl rfl ?_
    refine JL.pure rfl rfl ?_
    refine JL.pure rfl rfl ?_
    refine JL.cases 25 rfl ?_ ?_
    · intro h25
      (try simp only [Bool.not_eq_true', Bool.not_eq_false', decide_eq_true_eq, decide_eq_false_iff_not] at h25)
      have hso : s.ok = false := by simpa using h25
      refine JL.pass rfl rfl rfl rfl ?_
      refine JL.pass rfl rfl rfl rfl ?_
      refine JL.pass rfl rfl rfl rfl ?_
      refine JL.pure rfl rfl ?_
      refine JL.nil ?_
      ((repeat refine Ex.normal_block ?_); refine Ex.next ?_)
      ((repeat refine JC.seq ?_); refine JC.cond rfl (fun _ => ?_) (fun h => by cases h))
      ((repeat refine JC.seq ?_); refine JC.region ?_)
      refine JL.pure rfl rfl ?_
      refine JL.pure rfl rfl ?_
      refine JL.nil ?_
      ((repeat refine Ex.normal_block ?_); refine Ex.next ?_)
      ((repeat refine JC.seq ?_); refine JC.ret ?_)
      (repeat (first | refine Ex.ret_then ?_ | refine Ex.ret_block ?_))
      refine Ex.ret2 rfl (.tmp rfl) (.tmp rfl) ?_
      unfold discR ResR; rw [hok, hso]
      exact ⟨.slice none 0 0, rfl, ((H.drop 0).drop 0).nilRow 140 3⟩
    · intro h25
      (try simp only [Bool.not_eq_true', Bool.not_eq_false', decide_eq_true_eq, decide_eq_false_iff_not] at h25)
      have hso : s.ok = true := by simpa using h25
      have hsb := Spot.ok_b hso
      refine JL.want rfl rfl ?_
      refine JL.pure rfl rfl ?_
      refine JL.want rfl rfl ?_
      refine JL.callP H fb174 rfl rfl (in_c _ _ _ _) ?_
      intro w5 H _
      refine JL.want rfl rfl ?_
      refine JL.pure rfl rfl ?_
      refine JL.pure rfl rfl ?_
      refine JL.nil ?_
      ((repeat refine Ex.normal_block ?_); refine Ex.next ?_)
      ((repeat refine JC.seq ?_); refine JC.cond rfl ?_ ?_)
      · intro h29
        (try simp only [Bool.not_eq_true', Bool.not_eq_false', decide_eq_true_eq, decide_eq_false_iff_not] at h29)
        have hra : ¬(0 ≤ radius ∧ radius ≤ 16777216) := by simpa using h29
        ((repeat refine JC.seq ?_); refine JC.region ?_)
        refine JL.pure rfl rfl ?_
        refine JL.pure rfl rfl ?_
        refine JL.nil ?_
        ((repeat refine Ex.normal_block ?_); refine Ex.next ?_)
        ((repeat refine JC.seq ?_); refine JC.ret ?_)
        (repeat (first | refine Ex.ret_then ?_ | refine Ex.ret_block ?_))
        refine Ex.ret2 rfl (.tmp rfl) (.tmp rfl) ?_
        unfold discR ResR; rw [hok, hso, decide_eq_false hra]
        exact ⟨.slice none 0 0, rfl, ((H.drop 0).drop 0).nilRow 140 3⟩
      · intro h29
        (try simp only [Bool.not_eq_true', Bool.not_eq_false', decide_eq_true_eq, decide_eq_false_iff_not] at h29)
        have hra : 0 ≤ radius ∧ radius ≤ 16777216 := by simpa using h29
        have hrr := mul_bd2 (A := 16777216) (B := 16777216) (a := radius) (b := radius) (by omega) (by omega) (by omega) (by omega)
        ((repeat refine JC.seq ?_); refine JC.skip ?_)
        ((repeat refine Ex.normal_block ?_); refine Ex.next ?_)
        ((repeat refine JC.seq ?_); refine JC.region ?_)
        refine JL.makeMap Cell.ev Value.bool H rfl ?_
        intro β w1 H
        refine JL.pure rfl rfl ?_
        refine JL.nil ?_
        ((repeat refine Ex.normal_block ?_); refine Ex.next ?_)
        ((repeat refine JC.seq ?_); refine JC.region ?_)
        refine JL.loadB 2 H rfl sh52 rfl rfl rfl ?_
        refine JL.call fb172 rfl rfl (every_c g _ _ (hl.grow H.below) (by omega) (by omega)) ?_
        rintro _ w6 ⟨cv, rfl, K⟩
        have hall : ∀ c ∈ everyR g.W.toNat g.H.toNat, inG g c := fun c hc => (every_inG (by omega) (by omega)).1 hc
        have hlen : (everyR g.W.toNat g.H.toNat).length ≤ 65536 := by rw [everyR_len]; exact nat_mul_bd (by omega) (by omega)
        generalize hev : everyR g.W.toNat g.H.toNat = l at *
        obtain ⟨ca, cc, rfl⟩ := K.row_slice (j := 0) rfl
        have H := H.join K
        refine ⟨_, rfl, ?_⟩
        refine JL.pure rfl rfl ?_
        refine JL.nil ?_
        ((repeat refine Ex.normal_block ?_); refine Ex.next ?_)
        ((repeat refine JC.seq ?_); refine JC.region ?_)
        refine JL.pure rfl rfl ?_
        refine JL.nil ?_
        ((repeat refine Ex.normal_block ?_); refine Ex.next ?_)
        ((repeat refine JC.seq ?_); refine JC.block ?_)
        ((repeat refine JC.seq ?_); refine JC.loop (ι := Nat × List (Cell × Bool)) (fun x => [(2, .int .i64 radius), (3, .pointer (some ⟨b3, 0, none⟩)), (4, .pointer (some ⟨b4, 0, none⟩)), (10, .map (some β)), (11, .slice ca l.length cc), (12, .int .i64 x.1)])
          (fun x wr => x.1 ≤ l.length ∧ MSet x.2 (fun c => c ∈ l.take x.1 ∧ awayI g.S s.X c.X * awayI g.S s.X c.X + awayI g.S s.Y c.Y * awayI g.S s.Y c.Y ≤ radius * radius) ∧ Own w wr [cellRow (.slice ca l.length cc) l, setM β x.2, blk b4 (.cells ⟨[.int .i64 s.X, .int .i64 s.Y]⟩ 23 (0, 0)), blk b3 (.cells ⟨[.int .i64 g.W, .int .i64 g.H, .int .i64 g.S, .slice la g.land.length lc]⟩ 52 (0, 0))]) (fun x => l.length - x.1) (0, []) ?_ ?_ ?_)
        · exact ⟨rfl, rfl, rfl, rfl, rfl, rfl, trivial⟩
        · exact ⟨Nat.zero_le _, MSet.nil.congr fun c => by simp, H⟩
        · rintro ⟨k, m⟩ wr ⟨hk, hm, H⟩
          simp only at hk hm H
          show JC _ _ _ _ [(2, .int .i64 radius), (3, .pointer (some ⟨b3, 0, none⟩)), (4, .pointer (some ⟨b4, 0, none⟩)), (10, .map (some β)), (11, .slice ca l.length cc), (12, .int .i64 k)] _
          ((repeat refine JC.seq ?_); refine JC.region ?_)
          refine JL.pure rfl rfl ?_
          refine JL.pure rfl rfl ?_
          refine JL.len rfl Try.underlying68 rfl ?_
          refine JL.pure rfl rfl ?_
          refine JL.nil ?_
          ((repeat refine Ex.normal_block ?_); refine Ex.next ?_)
          ((repeat refine JC.seq ?_); refine JC.cond rfl ?_ ?_)
          · intro h36
            (try simp only [Bool.not_eq_true', Bool.not_eq_false', decide_eq_true_eq, decide_eq_false_iff_not] at h36)
            have h36 : k < l.length := by omega
            have hx : l[k]? = some l[k] := by simp [h36]
            have hin := hall _ (List.getElem_mem h36)
            unfold inG at hin
            obtain ⟨g2, c2, hg2, _, _, _⟩ := H.rowAt (j := 0) (e := 62) (sz := 2) (enc := Cell.cs) (fun _ => rfl) rfl hx
            simp only [Value.slice.injEq] at hg2
            obtain ⟨rfl, _, rfl⟩ := hg2
            have m1 := mul_bd (M := 0) hin.1.1 (by omega) (show 0 ≤ g.S by omega) hgS.2
            have m2 := mul_bd (M := 0) hin.2.1 (by omega) (show 0 ≤ g.S by omega) hgS.2
            obtain ⟨ax, hax⟩ : ∃ ax, ax = awayI g.S s.X l[k].X := ⟨_, rfl⟩
            obtain ⟨ay, hay⟩ : ∃ ay, ay = awayI g.S s.Y l[k].Y := ⟨_, rfl⟩
            have ba := away_bd m1 hgS hsb.1
            have bb := away_bd m2 hgS hsb.2
            rw [← hax] at ba
            rw [← hay] at bb
            have q1 := mul_bd2 (A := 100000000) (B := 100000000) ba.1 ba.2 ba.1 ba.2
            have q2 := mul_bd2 (A := 100000000) (B := 100000000) bb.1 bb.2 bb.1 bb.2
            ((repeat refine JC.seq ?_); refine JC.skip ?_)
            ((repeat refine Ex.normal_block ?_); refine Ex.next ?_)
            ((repeat refine JC.seq ?_); refine JC.block ?_)
            ((repeat refine JC.seq ?_); refine JC.draw 24 H mixed (by kernel_rfl) rfl ?_)
            refine JD.fieldAddr rfl Try.underlying23 rfl sh3 rfl ?_
            refine JD.loadB 2 rfl sh3 rfl rfl rfl ?_
            refine JD.pure rfl rfl ?_
            refine JD.pure rfl rfl ?_
            refine JD.indexS k rfl rfl Try.underlying68 sh62 rfl h36 rfl ?_
            refine JD.fieldAddr rfl Try.underlying62 rfl sh3 rfl ?_
            refine JD.load rfl sh3 (fun w hw => (hw.rowLd (j := 0) (e := 62) (sz := 2) (enc := Cell.cs) (fun _ => rfl) rfl hx).part 0 rfl 1) rfl ?_
            refine JD.fieldAddr rfl Try.underlying52 rfl sh3 rfl ?_
            refine JD.loadB 3 rfl sh3 rfl rfl rfl ?_
            refine JD.arith rfl (by unfold In64; omega) rfl ?_
            refine JD.pure rfl rfl ?_
            refine JD.pure rfl rfl ?_
            refine JD.indexS k rfl rfl Try.underlying68 sh62 rfl h36 rfl ?_
            refine JD.fieldAddr rfl Try.underlying62 rfl sh3 rfl ?_
            refine JD.load rfl sh3 (fun w hw => (hw.rowLd (j := 0) (e := 62) (sz := 2) (enc := Cell.cs) (fun _ => rfl) rfl hx).part 0 rfl 1) rfl ?_
            refine JD.fieldAddr rfl Try.underlying52 rfl sh3 rfl ?_
            refine JD.loadB 3 rfl sh3 rfl rfl rfl ?_
            refine JD.arith rfl (by unfold In64; omega) rfl ?_
            refine JD.fieldAddr rfl Try.underlying52 rfl sh3 rfl ?_
            refine JD.loadB 3 rfl sh3 rfl rfl rfl ?_
            refine JD.arith rfl (by unfold In64; omega) rfl ?_
            refine JD.arith rfl (by unfold In64; omega) rfl ?_
            refine JD.call fb175 rfl rfl (fun w hw => (show Pur Try.prog 175 _ w (.int .i64 ax) from by rw [hax]; exact near175_c s.X g.S l[k].X w m1 hgS hsb.1)) ?_
            refine JD.pure rfl rfl ?_
            refine JD.nil ?_
            intro w7 H
            show JL _ _ _ _ _ _ _
            refine JL.nil ?_
            ((repeat refine Ex.normal_block ?_); refine Ex.next ?_)
            ((repeat refine JC.seq ?_); refine JC.draw 24 H mixed (by kernel_rfl) rfl ?_)
            refine JD.fieldAddr rfl Try.underlying23 rfl sh3 rfl ?_
            refine JD.loadB 2 rfl sh3 rfl rfl rfl ?_
            refine JD.pure rfl rfl ?_
            refine JD.pure rfl rfl ?_
            refine JD.indexS k rfl rfl Try.underlying68 sh62 rfl h36 rfl ?_
            refine JD.fieldAddr rfl Try.underlying62 rfl sh3 rfl ?_
            refine JD.load rfl sh3 (fun w hw => (hw.rowLd (j := 0) (e := 62) (sz := 2) (enc := Cell.cs) (fun _ => rfl) rfl hx).part 1 rfl 1) rfl ?_
            refine JD.fieldAddr rfl Try.underlying52 rfl sh3 rfl ?_
            refine JD.loadB 3 rfl sh3 rfl rfl rfl ?_
            refine JD.arith rfl (by unfold In64; omega) rfl ?_
            refine JD.pure rfl rfl ?_
            refine JD.pure rfl rfl ?_
            refine JD.indexS k rfl rfl Try.underlying68 sh62 rfl h36 rfl ?_
            refine JD.fieldAddr rfl Try.underlying62 rfl sh3 rfl ?_
            refine JD.load rfl sh3 (fun w hw => (hw.rowLd (j := 0) (e := 62) (sz := 2) (enc := Cell.cs) (fun _ => rfl) rfl hx).part 1 rfl 1) rfl ?_
            refine JD.fieldAddr rfl Try.underlying52 rfl sh3 rfl ?_
            refine JD.loadB 3 rfl sh3 rfl rfl rfl ?_
            refine JD.arith rfl (by unfold In64; omega) rfl ?_
            refine JD.fieldAddr rfl Try.underlying52 rfl sh3 rfl ?_
            refine JD.loadB 3 rfl sh3 rfl rfl rfl ?_
            refine JD.arith rfl (by unfold In64; omega) rfl ?_
            refine JD.arith rfl (by unfold In64; omega) rfl ?_
            refine JD.call fb175 rfl rfl (fun w hw => (show Pur Try.prog 175 _ w (.int .i64 ay) from by rw [hay]; exact near175_c s.Y g.S l[k].Y w m2 hgS hsb.2)) ?_
            refine JD.pure rfl rfl ?_
            refine JD.nil ?_
            intro w8 H
            show JL _ _ _ _ _ _ _
            refine JL.nil ?_
            ((repeat refine Ex.normal_block ?_); refine Ex.next ?_)
            ((repeat refine JC.seq ?_); refine JC.region ?_)
            refine JL.pure rfl rfl ?_
            refine JL.pure rfl rfl ?_
            refine JL.pure rfl rfl ?_
            refine JL.indexS k rfl rfl Try.underlying68 sh62 rfl h36 rfl ?_
            refine JL.load rfl sh62 (H.rowLd (j := 0) (e := 62) (sz := 2) (enc := Cell.cs) (fun _ => rfl) rfl hx) rfl ?_
            refine JL.pure rfl rfl ?_
            refine JL.pure rfl rfl ?_
            refine JL.arith rfl (by unfold In64; omega) rfl ?_
            refine JL.pure rfl rfl ?_
            refine JL.pure rfl rfl ?_
            refine JL.arith rfl (by unfold In64; omega) rfl ?_
            refine JL.arith rfl (by unfold In64; omega) rfl ?_
            refine JL.pure rfl rfl ?_
            refine JL.pure rfl rfl ?_
            refine JL.arith rfl (by unfold In64; omega) rfl ?_
            refine JL.pure rfl rfl ?_
            refine JL.mapUpdate 1 H l[k] (decide (ax * ax + ay * ay ≤ radius * radius)) rfl rfl rfl Try.underlying202 keyCell rfl rfl ?_
            intro w9 H
            refine JL.nil ?_
            ((repeat refine Ex.normal_block ?_); refine Ex.next ?_)
            ((repeat refine JC.seq ?_); refine JC.region ?_)
            refine JL.pure rfl rfl ?_
            refine JL.arith rfl (by unfold In64; omega) rfl ?_
            refine JL.pure rfl rfl ?_
            refine JL.nil ?_
            (repeat refine Ex.normal_block ?_)
            refine Ex.again (k + 1, mset m l[k] (decide (ax * ax + ay * ay ≤ radius * radius))) ⟨rfl, rfl, rfl, rfl, rfl, rfl, trivial⟩ ⟨h36, (hm.put l[k] _).congr fun c => ?_, H⟩ (by simp only; omega)
            exact put_step (S := fun c => awayI g.S s.X c.X * awayI g.S s.X c.X + awayI g.S s.Y c.Y * awayI g.S s.Y c.Y ≤ radius * radius) (b := decide (ax * ax + ay * ay ≤ radius * radius)) h36 (by rw [decide_eq_true_eq, hax, hay]) c
          · intro h36
            (try simp only [Bool.not_eq_true', Bool.not_eq_false', decide_eq_true_eq, decide_eq_false_iff_not] at h36)
            have hkk : k = l.length := by omega
            subst hkk
            rw [List.take_length] at hm
            ((repeat refine JC.seq ?_); refine JC.exit ?_)
            (repeat (first | refine Ex.exit_then ?_ | refine Ex.exit_miss (by decide) ?_))
            refine Ex.exit_hit ?_
            ((repeat refine Ex.normal_block ?_); refine Ex.next ?_)
            ((repeat refine JC.seq ?_); refine JC.region ?_)
            refine JL.loadB 3 H rfl sh52 rfl rfl rfl ?_
            refine JL.pure rfl rfl ?_
            refine JL.call fb173 rfl rfl (runs_c g _ β m _ (hl.grow H.below) (by omega) (by omega) (H.mapAt (i := 1) rfl)) ?_
            rintro _ w10 ⟨rv, rfl, K⟩
            have H := H.join K
            refine ⟨_, rfl, ?_⟩
            refine JL.pure rfl rfl ?_
            refine JL.pure rfl rfl ?_
            refine JL.pure rfl rfl ?_
            refine JL.pure rfl rfl ?_
            refine JL.nil ?_
            ((repeat refine Ex.normal_block ?_); refine Ex.next ?_)
            ((repeat refine JC.seq ?_); refine JC.ret ?_)
            (repeat (first | refine Ex.ret_then ?_ | refine Ex.ret_block ?_))
            refine Ex.ret2 rfl (.tmp rfl) (.tmp rfl) ?_
            subst hev
            rw [discR_eq hok hso hra (set_all (by omega) (by omega) hm)]
            exact ⟨_, rfl, ((((H.drop 1).drop 1).drop 1).drop 1)⟩
instance (g : Grid) (lo hi : Spot) (c : Cell) : Decidable (inBox g lo hi c) := by unfold inBox; infer_instance
theorem boxRef_c (g : Grid) (lv : Value) (lo hi : Spot) (w : World) (hl : SlR w lv g.land) : Calls Try.prog 80 #[g.ev lv, lo.ev, hi.ev] w (fun e w' => ResR w w' [] (boxR g lo hi) e) := by
  obtain ⟨la, lc, rfl⟩ := hl.len
  refine calls_J (args := [g.ev (.slice la g.land.length lc), lo.ev, hi.ev]) Try.func80 rfl Try.ntmps80 rfl ?_
  have H := Own.start w
  ((repeat refine JC.seq ?_); refine JC.region ?_)
  refine JL.box H rfl rfl rfl ?_
  intro b3 w1 H
  refine JL.box H rfl rfl rfl ?_
  intro b4 w2 H
  refine JL.box H rfl rfl rfl ?_
  intro b5 w3 H
  refine JL.pure rfl rfl ?_
  refine JL.pure rfl rfl ?_
  refine JL.nil ?_
  ((repeat refine Ex.normal_block ?_); refine Ex.next ?_)
  ((repeat refine JC.seq ?_); refine JC.region ?_)
  refine JL.loadB 2 H rfl sh52 rfl rfl rfl ?_
  refine JL.callP H fb170 rfl rfl (gridR_c g _ _ (hl.grow H.below)) ?_
  intro w4 H _
  refine JL.pure rfl rfl ?_
  refine JL.nil ?_
  ((repeat refine Ex.normal_block ?_); refine Ex.next ?_)
  ((repeat refine JC.seq ?_); refine JC.region ?_)
  refine JL.loadB 1 H rfl sh23 rfl rfl rfl ?_
  refine JL.callP H fb171 rfl rfl (spotR_c _ _) ?_
  intro w5 H _
  refine JL.pure rfl rfl ?_
  refine JL.cases 19 rfl ?_ ?_
  · intro h19
    (try simp only [Bool.not_eq_true', Bool.not_eq_false', decide_eq_true_eq, decide_eq_false_iff_not] at h19)
    have hlo : lo.ok = true := by simpa using h19
    refine JL.want rfl rfl ?_
    refine JL.loadB 0 H rfl sh23 rfl rfl rfl ?_
    refine JL.want rfl rfl ?_
    refine JL.callP H fb171 rfl rfl (spotR_c _ _) ?_
    intro w6 H _
    refine JL.pure rfl rfl ?_
    refine JL.pure rfl rfl ?_
    refine JL.nil ?_
    ((repeat refine Ex.normal_block ?_); refine Ex.next ?_)
    ((repeat refine JC.seq ?_); refine JC.region ?_)
    refine JL.pure rfl rfl ?_
    refine JL.pure rfl rfl ?_
    refine JL.pure rfl rfl ?_
    refine JL.cases 25 rfl ?_ ?_
    · intro h25
      (try simp only [Bool.not_eq_true', Bool.not_eq_false', decide_eq_true_eq, decide_eq_false_iff_not] at h25)
      have hok : g.ok = false := by simpa using h25
      refine JL.pass rfl rfl rfl rfl ?_
      refine JL.pass rfl rfl rfl rfl ?_
      refine JL.pure rfl rfl ?_
      refine JL.pure rfl rfl ?_
      refine JL.pass rfl rfl rfl rfl ?_
      refine JL.pass rfl rfl rfl rfl ?_
      refine JL.pass rfl rfl rfl rfl ?_
      refine JL.pass rfl rfl rfl rfl ?_
      refine JL.pass rfl rfl rfl rfl ?_
      refine JL.pure rfl rfl ?_
      refine JL.pure rfl rfl ?_
      refine JL.pass rfl rfl rfl rfl ?_
      refine JL.pass rfl rfl rfl rfl ?_
      refine JL.pass rfl rfl rfl rfl ?_
      refine JL.pass rfl rfl rfl rfl ?_
      refine JL.pass rfl rfl rfl rfl ?_
      refine JL.pure rfl rfl ?_
      refine JL.nil ?_
      ((repeat refine Ex.normal_block ?_); refine Ex.next ?_)
      ((repeat refine JC.seq ?_); refine JC.cond rfl (fun _ => ?_) (fun h => by cases h))
      ((repeat refine JC.seq ?_); refine JC.region ?_)
      refine JL.pure rfl rfl ?_
      refine JL.pure rfl rfl ?_
      refine JL.nil ?_
      ((repeat refine Ex.normal_block ?_); refine Ex.next ?_)
      ((repeat refine JC.seq ?_); refine JC.ret ?_)
      (repeat (first | refine Ex.ret_then ?_ | refine Ex.ret_block ?_))
      refine Ex.ret2 rfl (.tmp rfl) (.tmp rfl) ?_
      have he : boxR g lo hi = ([], 2) := by
        unfold boxR
        rw [if_neg]
        intro h
        simp only [Bool.and_eq_true, decide_eq_true_eq] at h
        first
          | omega
          | simp_all
      rw [he]
      exact ⟨.slice none 0 0, rfl, (((H.drop 0).drop 0).drop 0).nilRow 140 3⟩
    · intro h25
      (try simp only [Bool.not_eq_true', Bool.not_eq_false', decide_eq_true_eq, decide_eq_false_iff_not] at h25)
      have hok : g.ok = true := by simpa using h25
      obtain ⟨hgW, hgH, hgS, hgl⟩ := Grid.ok_b hok
      refine JL.want rfl rfl ?_
      refine JL.pure rfl rfl ?_
      refine JL.want rfl rfl ?_
      refine JL.pure rfl rfl ?_
      refine JL.pure rfl rfl ?_
      refine JL.pure rfl rfl ?_
      refine JL.cases 29 rfl ?_ ?_
      · intro h29
        (try simp only [Bool.not_eq_true', Bool.not_eq_false', decide_eq_true_eq, decide_eq_false_iff_not] at h29)
        
        refine JL.pass rfl rfl rfl rfl ?_
        refine JL.pass rfl rfl rfl rfl ?_
        refine JL.pass rfl rfl rfl rfl ?_
        refine JL.pass rfl rfl rfl rfl ?_
        refine JL.pass rfl rfl rfl rfl ?_
        refine JL.pure rfl rfl ?_
        refine JL.pure rfl rfl ?_
        refine JL.pass rfl rfl rfl rfl ?_
        refine JL.pass rfl rfl rfl rfl ?_
        refine JL.pass rfl rfl rfl rfl ?_
        refine JL.pass rfl rfl rfl rfl ?_
        refine JL.pass rfl rfl rfl rfl ?_
        refine JL.pure rfl rfl ?_
        refine JL.nil ?_
        ((repeat refine Ex.normal_block ?_); refine Ex.next ?_)
        ((repeat refine JC.seq ?_); refine JC.cond rfl (fun _ => ?_) (fun h => by cases h))
        ((repeat refine JC.seq ?_); refine JC.region ?_)
        refine JL.pure rfl rfl ?_
        refine JL.pure rfl rfl ?_
        refine JL.nil ?_
        ((repeat refine Ex.normal_block ?_); refine Ex.next ?_)
        ((repeat refine JC.seq ?_); refine JC.ret ?_)
        (repeat (first | refine Ex.ret_then ?_ | refine Ex.ret_block ?_))
        refine Ex.ret2 rfl (.tmp rfl) (.tmp rfl) ?_
        have he : boxR g lo hi = ([], 2) := by
          unfold boxR
          rw [if_neg]
          intro h
          simp only [Bool.and_eq_true, decide_eq_true_eq] at h
          first
            | omega
            | simp_all
        rw [he]
        exact ⟨.slice none 0 0, rfl, (((H.drop 0).drop 0).drop 0).nilRow 140 3⟩
      · intro h29
        (try simp only [Bool.not_eq_true', Bool.not_eq_false', decide_eq_true_eq, decide_eq_false_iff_not] at h29)
        have hab : hi.ok = true := by simpa using h29
        have hlb := Spot.ok_b hlo
        have hhb := Spot.ok_b hab
        refine JL.want rfl rfl ?_
        refine JL.fieldAddr rfl Try.underlying23 rfl sh3 rfl ?_
        refine JL.want rfl rfl ?_
        refine JL.loadB 1 H rfl sh3 rfl rfl rfl ?_
        refine JL.want rfl rfl ?_
        refine JL.fieldAddr rfl Try.underlying23 rfl sh3 rfl ?_
        refine JL.want rfl rfl ?_
        refine JL.loadB 0 H rfl sh3 rfl rfl rfl ?_
        refine JL.want rfl rfl ?_
        refine JL.pure rfl rfl ?_
        refine JL.pure rfl rfl ?_
        refine JL.pure rfl rfl ?_
        refine JL.cases 36 rfl ?_ ?_
        · intro h36
          (try simp only [Bool.not_eq_true', Bool.not_eq_false', decide_eq_true_eq, decide_eq_false_iff_not] at h36)
          refine JL.pass rfl rfl rfl rfl ?_
          refine JL.pass rfl rfl rfl rfl ?_
          refine JL.pass rfl rfl rfl rfl ?_
          refine JL.pass rfl rfl rfl rfl ?_
          refine JL.pass rfl rfl rfl rfl ?_
          refine JL.pure rfl rfl ?_
          refine JL.nil ?_
          ((repeat refine Ex.normal_block ?_); refine Ex.next ?_)
          ((repeat refine JC.seq ?_); refine JC.cond rfl (fun _ => ?_) (fun h => by cases h))
          ((repeat refine JC.seq ?_); refine JC.region ?_)
          refine JL.pure rfl rfl ?_
          refine JL.pure rfl rfl ?_
          refine JL.nil ?_
          ((repeat refine Ex.normal_block ?_); refine Ex.next ?_)
          ((repeat refine JC.seq ?_); refine JC.ret ?_)
          (repeat (first | refine Ex.ret_then ?_ | refine Ex.ret_block ?_))
          refine Ex.ret2 rfl (.tmp rfl) (.tmp rfl) ?_
          have he : boxR g lo hi = ([], 2) := by
            unfold boxR
            rw [if_neg]
            intro h
            simp only [Bool.and_eq_true, decide_eq_true_eq] at h
            first
              | omega
              | simp_all
          rw [he]
          exact ⟨.slice none 0 0, rfl, (((H.drop 0).drop 0).drop 0).nilRow 140 3⟩
        · intro h36
          (try simp only [Bool.not_eq_true', Bool.not_eq_false', decide_eq_true_eq, decide_eq_false_iff_not] at h36)
          refine JL.want rfl rfl ?_
          refine JL.fieldAddr rfl Try.underlying23 rfl sh3 rfl ?_
          refine JL.want rfl rfl ?_
          refine JL.loadB 1 H rfl sh3 rfl rfl rfl ?_
          refine JL.want rfl rfl ?_
          refine JL.fieldAddr rfl Try.underlying23 rfl sh3 rfl ?_
          refine JL.want rfl rfl ?_
          refine JL.loadB 0 H rfl sh3 rfl rfl rfl ?_
          refine JL.want rfl rfl ?_
          refine JL.pure rfl rfl ?_
          refine JL.pure rfl rfl ?_
          refine JL.nil ?_
          ((repeat refine Ex.normal_block ?_); refine Ex.next ?_)
          ((repeat refine JC.seq ?_); refine JC.cond rfl ?_ ?_)
          · intro h42
            (try simp only [Bool.not_eq_true', Bool.not_eq_false', decide_eq_true_eq, decide_eq_false_iff_not] at h42)
            ((repeat refine JC.seq ?_); refine JC.region ?_)
            refine JL.pure rfl rfl ?_
            refine JL.pure rfl rfl ?_
            refine JL.nil ?_
            ((repeat refine Ex.normal_block ?_); refine Ex.next ?_)
            ((repeat refine JC.seq ?_); refine JC.ret ?_)
            (repeat (first | refine Ex.ret_then ?_ | refine Ex.ret_block ?_))
            refine Ex.ret2 rfl (.tmp rfl) (.tmp rfl) ?_
            have he : boxR g lo hi = ([], 2) := by
              unfold boxR
              rw [if_neg]
              intro h
              simp only [Bool.and_eq_true, decide_eq_true_eq] at h
              first
                | omega
                | simp_all
            rw [he]
            exact ⟨.slice none 0 0, rfl, (((H.drop 0).drop 0).drop 0).nilRow 140 3⟩
          · intro h42
            (try simp only [Bool.not_eq_true', Bool.not_eq_false', decide_eq_true_eq, decide_eq_false_iff_not] at h42)
            ((repeat refine JC.seq ?_); refine JC.skip ?_)
            ((repeat refine Ex.normal_block ?_); refine Ex.next ?_)
            ((repeat refine JC.seq ?_); refine JC.region ?_)
            refine JL.makeMap Cell.ev Value.bool H rfl ?_
            intro β w1 H
            refine JL.pure rfl rfl ?_
            refine JL.nil ?_
            ((repeat refine Ex.normal_block ?_); refine Ex.next ?_)
            ((repeat refine JC.seq ?_); refine JC.region ?_)
            refine JL.loadB 3 H rfl sh52 rfl rfl rfl ?_
            refine JL.call fb172 rfl rfl (every_c g _ _ (hl.grow H.below) (by omega) (by omega)) ?_
            rintro _ w7 ⟨cv, rfl, K⟩
            have hall : ∀ c ∈ everyR g.W.toNat g.H.toNat, inG g c := fun c hc => (every_inG (by omega) (by omega)).1 hc
            have hlen : (everyR g.W.toNat g.H.toNat).length ≤ 65536 := by rw [everyR_len]; exact nat_mul_bd (by omega) (by omega)
            generalize hev : everyR g.W.toNat g.H.toNat = l at *
            obtain ⟨ca, cc, rfl⟩ := K.row_slice (j := 0) rfl
            have H := H.join K
            refine ⟨_, rfl, ?_⟩
            refine JL.pure rfl rfl ?_
            refine JL.nil ?_
            ((repeat refine Ex.normal_block ?_); refine Ex.next ?_)
            ((repeat refine JC.seq ?_); refine JC.region ?_)
            refine JL.pure rfl rfl ?_
            refine JL.nil ?_
            ((repeat refine Ex.normal_block ?_); refine Ex.next ?_)
            ((repeat refine JC.seq ?_); refine JC.block ?_)
            ((repeat refine JC.seq ?_); refine JC.loop (ι := Nat × List (Cell × Bool)) (fun x => [(3, .pointer (some ⟨b3, 0, none⟩)), (4, .pointer (some ⟨b4, 0, none⟩)), (5, .pointer (some ⟨b5, 0, none⟩)), (10, .map (some β)), (11, .slice ca l.length cc), (12, .int .i64 x.1)])
              (fun x wr => x.1 ≤ l.length ∧ MSet x.2 (fun c => c ∈ l.take x.1 ∧ inBox g lo hi c) ∧ Own w wr [cellRow (.slice ca l.length cc) l, setM β x.2, blk b5 (.cells ⟨[.int .i64 hi.X, .int .i64 hi.Y]⟩ 23 (0, 0)), blk b4 (.cells ⟨[.int .i64 lo.X, .int .i64 lo.Y]⟩ 23 (0, 0)), blk b3 (.cells ⟨[.int .i64 g.W, .int .i64 g.H, .int .i64 g.S, .slice la g.land.length lc]⟩ 52 (0, 0))]) (fun x => l.length - x.1) (0, []) ?_ ?_ ?_)
            · exact ⟨rfl, rfl, rfl, rfl, rfl, rfl, trivial⟩
            · exact ⟨Nat.zero_le _, MSet.nil.congr fun c => by simp, H⟩
            · rintro ⟨k, m⟩ wr ⟨hk, hm, H⟩
              simp only at hk hm H
              show JC _ _ _ _ [(3, .pointer (some ⟨b3, 0, none⟩)), (4, .pointer (some ⟨b4, 0, none⟩)), (5, .pointer (some ⟨b5, 0, none⟩)), (10, .map (some β)), (11, .slice ca l.length cc), (12, .int .i64 k)] _
              ((repeat refine JC.seq ?_); refine JC.region ?_)
              refine JL.pure rfl rfl ?_
              refine JL.pure rfl rfl ?_
              refine JL.len rfl Try.underlying68 rfl ?_
              refine JL.pure rfl rfl ?_
              refine JL.nil ?_
              ((repeat refine Ex.normal_block ?_); refine Ex.next ?_)
              ((repeat refine JC.seq ?_); refine JC.cond rfl ?_ ?_)
              · intro h49
                (try simp only [Bool.not_eq_true', Bool.not_eq_false', decide_eq_true_eq, decide_eq_false_iff_not] at h49)
                have h49 : k < l.length := by omega
                have hx : l[k]? = some l[k] := by simp [h49]
                have hin := hall _ (List.getElem_mem h49)
                unfold inG at hin
                obtain ⟨g2, c2, hg2, _, _, _⟩ := H.rowAt (j := 0) (e := 62) (sz := 2) (enc := Cell.cs) (fun _ => rfl) rfl hx
                simp only [Value.slice.injEq] at hg2
                obtain ⟨rfl, _, rfl⟩ := hg2
                have m1 := mul_bd (M := 0) hin.1.1 (by omega) (show 0 ≤ g.S by omega) hgS.2
                have m2 := mul_bd (M := 0) hin.2.1 (by omega) (show 0 ≤ g.S by omega) hgS.2
                ((repeat refine JC.seq ?_); refine JC.skip ?_)
                ((repeat refine Ex.normal_block ?_); refine Ex.next ?_)
                ((repeat refine JC.seq ?_); refine JC.block ?_)
                ((repeat refine JC.seq ?_); refine JC.draw 9 H mixed (by kernel_rfl) rfl ?_)
                refine JD.pure rfl rfl ?_
                refine JD.pure rfl rfl ?_
                refine JD.indexS k rfl rfl Try.underlying68 sh62 rfl h49 rfl ?_
                refine JD.fieldAddr rfl Try.underlying62 rfl sh3 rfl ?_
                refine JD.load rfl sh3 (fun w hw => (hw.rowLd (j := 0) (e := 62) (sz := 2) (enc := Cell.cs) (fun _ => rfl) rfl hx).part 0 rfl 1) rfl ?_
                refine JD.fieldAddr rfl Try.underlying52 rfl sh3 rfl ?_
                refine JD.loadB 4 rfl sh3 rfl rfl rfl ?_
                refine JD.arith rfl (by unfold In64; omega) rfl ?_
                refine JD.pure rfl rfl ?_
                refine JD.nil ?_
                intro w8 H
                show JL _ _ _ _ _ _ _
                refine JL.nil ?_
                ((repeat refine Ex.normal_block ?_); refine Ex.next ?_)
                ((repeat refine JC.seq ?_); refine JC.draw 9 H mixed (by kernel_rfl) rfl ?_)
                refine JD.pure rfl rfl ?_
                refine JD.pure rfl rfl ?_
                refine JD.indexS k rfl rfl Try.underlying68 sh62 rfl h49 rfl ?_
                refine JD.fieldAddr rfl Try.underlying62 rfl sh3 rfl ?_
                refine JD.load rfl sh3 (fun w hw => (hw.rowLd (j := 0) (e := 62) (sz := 2) (enc := Cell.cs) (fun _ => rfl) rfl hx).part 1 rfl 1) rfl ?_
                refine JD.fieldAddr rfl Try.underlying52 rfl sh3 rfl ?_
                refine JD.loadB 4 rfl sh3 rfl rfl rfl ?_
                refine JD.arith rfl (by unfold In64; omega) rfl ?_
                refine JD.pure rfl rfl ?_
                refine JD.nil ?_
                intro w9 H
                show JL _ _ _ _ _ _ _
                refine JL.nil ?_
                ((repeat refine Ex.normal_block ?_); refine Ex.next ?_)
                ((repeat refine JC.seq ?_); refine JC.draw 35 H mixed (by kernel_rfl) rfl ?_)
                refine JD.pure rfl rfl ?_
                refine JD.pure rfl rfl ?_
                refine JD.pure rfl rfl ?_
                refine JD.indexS k rfl rfl Try.underlying68 sh62 rfl h49 rfl ?_
                refine JD.load rfl sh62 (fun w hw => hw.rowLd (j := 0) (e := 62) (sz := 2) (enc := Cell.cs) (fun _ => rfl) rfl hx) rfl ?_
                refine JD.pure rfl rfl ?_
                refine JD.fieldAddr rfl Try.underlying23 rfl sh3 rfl ?_
                refine JD.loadB 2 rfl sh3 rfl rfl rfl ?_
                refine JD.pure rfl rfl ?_
                refine JD.pure rfl rfl ?_
                refine JD.cases 77 rfl ?_ ?_
                · intro h77
                  (try simp only [Bool.not_eq_true', Bool.not_eq_false', decide_eq_true_eq, decide_eq_false_iff_not] at h77)
                  refine JD.want rfl rfl ?_
                  refine JD.pure rfl rfl ?_
                  refine JD.want rfl rfl ?_
                  refine JD.fieldAddr rfl Try.underlying52 rfl sh3 rfl ?_
                  refine JD.want rfl rfl ?_
                  refine JD.loadB 4 rfl sh3 rfl rfl rfl ?_
                  refine JD.want rfl rfl ?_
                  refine JD.arith rfl (by unfold In64; omega) rfl ?_
                  refine JD.want rfl rfl ?_
                  refine JD.arith rfl (by unfold In64; omega) rfl ?_
                  refine JD.want rfl rfl ?_
                  refine JD.fieldAddr rfl Try.underlying23 rfl sh3 rfl ?_
                  refine JD.want rfl rfl ?_
                  refine JD.loadB 3 rfl sh3 rfl rfl rfl ?_
                  refine JD.want rfl rfl ?_
                  refine JD.pure rfl rfl ?_
                  refine JD.pure rfl rfl ?_
                  refine JD.pure rfl rfl ?_
                  refine JD.cases 87 rfl ?_ ?_
                  · intro h87
                    (try simp only [Bool.not_eq_true', Bool.not_eq_false', decide_eq_true_eq, decide_eq_false_iff_not] at h87)
                    refine JD.want rfl rfl ?_
                    refine JD.pure rfl rfl ?_
                    refine JD.want rfl rfl ?_
                    refine JD.fieldAddr rfl Try.underlying23 rfl sh3 rfl ?_
                    refine JD.want rfl rfl ?_
                    refine JD.loadB 2 rfl sh3 rfl rfl rfl ?_
                    refine JD.want rfl rfl ?_
                    refine JD.pure rfl rfl ?_
                    refine JD.pure rfl rfl ?_
                    refine JD.pure rfl rfl ?_
                    refine JD.cases 93 rfl ?_ ?_
                    · intro h93
                      (try simp only [Bool.not_eq_true', Bool.not_eq_false', decide_eq_true_eq, decide_eq_false_iff_not] at h93)
                      refine JD.want rfl rfl ?_
                      refine JD.pure rfl rfl ?_
                      refine JD.want rfl rfl ?_
                      refine JD.fieldAddr rfl Try.underlying52 rfl sh3 rfl ?_
                      refine JD.want rfl rfl ?_
                      refine JD.loadB 4 rfl sh3 rfl rfl rfl ?_
                      refine JD.want rfl rfl ?_
                      refine JD.arith rfl (by unfold In64; omega) rfl ?_
                      refine JD.want rfl rfl ?_
                      refine JD.arith rfl (by unfold In64; omega) rfl ?_
                      refine JD.want rfl rfl ?_
                      refine JD.fieldAddr rfl Try.underlying23 rfl sh3 rfl ?_
                      refine JD.want rfl rfl ?_
                      refine JD.loadB 3 rfl sh3 rfl rfl rfl ?_
                      refine JD.want rfl rfl ?_
                      refine JD.pure rfl rfl ?_
                      refine JD.pure rfl rfl ?_
                      refine JD.nil ?_
                      intro w10 H
                      show JL _ _ _ _ _ _ _
                      refine JL.re 102 rfl (v' := .bool (decide (inBox g lo hi l[k]))) (by
                        congr 1
                        rw [Bool.eq_iff_iff]
                        simp only [decide_eq_true_eq, Bool.false_eq_true, false_iff]
                        unfold inBox
                        omega) ?_
                      refine JL.mapUpdate 1 H l[k] (decide (inBox g lo hi l[k])) rfl rfl rfl Try.underlying202 keyCell rfl rfl ?_
                      intro w11 H
                      refine JL.nil ?_
                      ((repeat refine Ex.normal_block ?_); refine Ex.next ?_)
                      ((repeat refine JC.seq ?_); refine JC.region ?_)
                      refine JL.pure rfl rfl ?_
                      refine JL.arith rfl (by unfold In64; omega) rfl ?_
                      refine JL.pure rfl rfl ?_
                      refine JL.nil ?_
                      (repeat refine Ex.normal_block ?_)
                      refine Ex.again (k + 1, mset m l[k] (decide (inBox g lo hi l[k]))) ⟨rfl, rfl, rfl, rfl, rfl, rfl, trivial⟩ ⟨h49, (hm.put l[k] _).congr fun c => ?_, H⟩ (by simp only; omega)
                      exact put_step (S := fun c => inBox g lo hi c) (b := decide (inBox g lo hi l[k])) h49 (by rw [decide_eq_true_eq]) c
                    · intro h93
                      (try simp only [Bool.not_eq_true', Bool.not_eq_false', decide_eq_true_eq, decide_eq_false_iff_not] at h93)
                      refine JD.pass rfl rfl rfl rfl ?_
                      refine JD.pass rfl rfl rfl rfl ?_
                      refine JD.pass rfl rfl rfl rfl ?_
                      refine JD.pass rfl rfl rfl rfl ?_
                      refine JD.pass rfl rfl rfl rfl ?_
                      refine JD.pass rfl rfl rfl rfl ?_
                      refine JD.pass rfl rfl rfl rfl ?_
                      refine JD.pass rfl rfl rfl rfl ?_
                      refine JD.pure rfl rfl ?_
                      refine JD.nil ?_
                      intro w12 H
                      show JL _ _ _ _ _ _ _
                      refine JL.re 102 rfl (v' := .bool (decide (inBox g lo hi l[k]))) (by
                        congr 1
                        rw [Bool.eq_iff_iff]
                        simp only [decide_eq_true_eq, Bool.false_eq_true, false_iff]
                        unfold inBox
                        omega) ?_
                      refine JL.mapUpdate 1 H l[k] (decide (inBox g lo hi l[k])) rfl rfl rfl Try.underlying202 keyCell rfl rfl ?_
                      intro w13 H
                      refine JL.nil ?_
                      ((repeat refine Ex.normal_block ?_); refine Ex.next ?_)
                      ((repeat refine JC.seq ?_); refine JC.region ?_)
                      refine JL.pure rfl rfl ?_
                      refine JL.arith rfl (by unfold In64; omega) rfl ?_
                      refine JL.pure rfl rfl ?_
                      refine JL.nil ?_
                      (repeat refine Ex.normal_block ?_)
                      refine Ex.again (k + 1, mset m l[k] (decide (inBox g lo hi l[k]))) ⟨rfl, rfl, rfl, rfl, rfl, rfl, trivial⟩ ⟨h49, (hm.put l[k] _).congr fun c => ?_, H⟩ (by simp only; omega)
                      exact put_step (S := fun c => inBox g lo hi c) (b := decide (inBox g lo hi l[k])) h49 (by rw [decide_eq_true_eq]) c
                  · intro h87
                    (try simp only [Bool.not_eq_true', Bool.not_eq_false', decide_eq_true_eq, decide_eq_false_iff_not] at h87)
                    refine JD.pass rfl rfl rfl rfl ?_
                    refine JD.pass rfl rfl rfl rfl ?_
                    refine JD.pass rfl rfl rfl rfl ?_
                    refine JD.pass rfl rfl rfl rfl ?_
                    refine JD.pure rfl rfl ?_
                    refine JD.pure rfl rfl ?_
                    refine JD.pass rfl rfl rfl rfl ?_
                    refine JD.pass rfl rfl rfl rfl ?_
                    refine JD.pass rfl rfl rfl rfl ?_
                    refine JD.pass rfl rfl rfl rfl ?_
                    refine JD.pass rfl rfl rfl rfl ?_
                    refine JD.pass rfl rfl rfl rfl ?_
                    refine JD.pass rfl rfl rfl rfl ?_
                    refine JD.pass rfl rfl rfl rfl ?_
                    refine JD.pure rfl rfl ?_
                    refine JD.nil ?_
                    intro w14 H
                    show JL _ _ _ _ _ _ _
                    refine JL.re 102 rfl (v' := .bool (decide (inBox g lo hi l[k]))) (by
                      congr 1
                      rw [Bool.eq_iff_iff]
                      simp only [decide_eq_true_eq, Bool.false_eq_true, false_iff]
                      unfold inBox
                      omega) ?_
                    refine JL.mapUpdate 1 H l[k] (decide (inBox g lo hi l[k])) rfl rfl rfl Try.underlying202 keyCell rfl rfl ?_
                    intro w15 H
                    refine JL.nil ?_
                    ((repeat refine Ex.normal_block ?_); refine Ex.next ?_)
                    ((repeat refine JC.seq ?_); refine JC.region ?_)
                    refine JL.pure rfl rfl ?_
                    refine JL.arith rfl (by unfold In64; omega) rfl ?_
                    refine JL.pure rfl rfl ?_
                    refine JL.nil ?_
                    (repeat refine Ex.normal_block ?_)
                    refine Ex.again (k + 1, mset m l[k] (decide (inBox g lo hi l[k]))) ⟨rfl, rfl, rfl, rfl, rfl, rfl, trivial⟩ ⟨h49, (hm.put l[k] _).congr fun c => ?_, H⟩ (by simp only; omega)
                    exact put_step (S := fun c => inBox g lo hi c) (b := decide (inBox g lo hi l[k])) h49 (by rw [decide_eq_true_eq]) c
                · intro h77
                  (try simp only [Bool.not_eq_true', Bool.not_eq_false', decide_eq_true_eq, decide_eq_false_iff_not] at h77)
                  refine JD.pass rfl rfl rfl rfl ?_
                  refine JD.pass rfl rfl rfl rfl ?_
                  refine JD.pass rfl rfl rfl rfl ?_
                  refine JD.pass rfl rfl rfl rfl ?_
                  refine JD.pass rfl rfl rfl rfl ?_
                  refine JD.pass rfl rfl rfl rfl ?_
                  refine JD.pass rfl rfl rfl rfl ?_
                  refine JD.pass rfl rfl rfl rfl ?_
                  refine JD.pure rfl rfl ?_
                  refine JD.pure rfl rfl ?_
                  refine JD.pass rfl rfl rfl rfl ?_
                  refine JD.pass rfl rfl rfl rfl ?_
                  refine JD.pass rfl rfl rfl rfl ?_
                  refine JD.pass rfl rfl rfl rfl ?_
                  refine JD.pure rfl rfl ?_
                  refine JD.pure rfl rfl ?_
                  refine JD.pass rfl rfl rfl rfl ?_
                  refine JD.pass rfl rfl rfl rfl ?_
                  refine JD.pass rfl rfl rfl rfl ?_
                  refine JD.pass rfl rfl rfl rfl ?_
                  refine JD.pass rfl rfl rfl rfl ?_
                  refine JD.pass rfl rfl rfl rfl ?_
                  refine JD.pass rfl rfl rfl rfl ?_
                  refine JD.pass rfl rfl rfl rfl ?_
                  refine JD.pure rfl rfl ?_
                  refine JD.nil ?_
                  intro w16 H
                  show JL _ _ _ _ _ _ _
                  refine JL.re 102 rfl (v' := .bool (decide (inBox g lo hi l[k]))) (by
                    congr 1
                    rw [Bool.eq_iff_iff]
                    simp only [decide_eq_true_eq, Bool.false_eq_true, false_iff]
                    unfold inBox
                    omega) ?_
                  refine JL.mapUpdate 1 H l[k] (decide (inBox g lo hi l[k])) rfl rfl rfl Try.underlying202 keyCell rfl rfl ?_
                  intro w17 H
                  refine JL.nil ?_
                  ((repeat refine Ex.normal_block ?_); refine Ex.next ?_)
                  ((repeat refine JC.seq ?_); refine JC.region ?_)
                  refine JL.pure rfl rfl ?_
                  refine JL.arith rfl (by unfold In64; omega) rfl ?_
                  refine JL.pure rfl rfl ?_
                  refine JL.nil ?_
                  (repeat refine Ex.normal_block ?_)
                  refine Ex.again (k + 1, mset m l[k] (decide (inBox g lo hi l[k]))) ⟨rfl, rfl, rfl, rfl, rfl, rfl, trivial⟩ ⟨h49, (hm.put l[k] _).congr fun c => ?_, H⟩ (by simp only; omega)
                  exact put_step (S := fun c => inBox g lo hi c) (b := decide (inBox g lo hi l[k])) h49 (by rw [decide_eq_true_eq]) c
              · intro h49
                (try simp only [Bool.not_eq_true', Bool.not_eq_false', decide_eq_true_eq, decide_eq_false_iff_not] at h49)
                have hkk : k = l.length := by omega
                subst hkk
                rw [List.take_length] at hm
                ((repeat refine JC.seq ?_); refine JC.exit ?_)
                (repeat (first | refine Ex.exit_then ?_ | refine Ex.exit_miss (by decide) ?_))
                refine Ex.exit_hit ?_
                ((repeat refine Ex.normal_block ?_); refine Ex.next ?_)
                ((repeat refine JC.seq ?_); refine JC.region ?_)
                refine JL.loadB 4 H rfl sh52 rfl rfl rfl ?_
                refine JL.pure rfl rfl ?_
                refine JL.call fb173 rfl rfl (runs_c g _ β m _ (hl.grow H.below) (by omega) (by omega) (H.mapAt (i := 1) rfl)) ?_
                rintro _ w18 ⟨rv, rfl, K⟩
                have H := H.join K
                refine ⟨_, rfl, ?_⟩
                refine JL.pure rfl rfl ?_
                refine JL.pure rfl rfl ?_
                refine JL.pure rfl rfl ?_
                refine JL.pure rfl rfl ?_
                refine JL.nil ?_
                ((repeat refine Ex.normal_block ?_); refine Ex.next ?_)
                ((repeat refine JC.seq ?_); refine JC.ret ?_)
                (repeat (first | refine Ex.ret_then ?_ | refine Ex.ret_block ?_))
                refine Ex.ret2 rfl (.tmp rfl) (.tmp rfl) ?_
                subst hev
                rw [boxR_eq hok hlo hab (by omega) (set_all (by omega) (by omega) hm)]
                exact ⟨_, rfl, (((((H.drop 1).drop 1).drop 1).drop 1).drop 1)⟩
  · intro h19
    (try simp only [Bool.not_eq_true', Bool.not_eq_false', decide_eq_true_eq, decide_eq_false_iff_not] at h19)
    have hlo : lo.ok = false := by simpa using h19
    refine JL.pass rfl rfl rfl rfl ?_
    refine JL.pass rfl rfl rfl rfl ?_
    refine JL.pure rfl rfl ?_
    refine JL.pure rfl rfl ?_
    refine JL.nil ?_
    ((repeat refine Ex.normal_block ?_); refine Ex.next ?_)
    ((repeat refine JC.seq ?_); refine JC.region ?_)
    refine JL.pure rfl rfl ?_
    refine JL.pure rfl rfl ?_
    refine JL.pure rfl rfl ?_
    refine JL.cases 25 rfl ?_ ?_
    · intro h25
      (try simp only [Bool.not_eq_true', Bool.not_eq_false', decide_eq_true_eq, decide_eq_false_iff_not] at h25)
      have hok : g.ok = false := by simpa using h25
      refine JL.pass rfl rfl rfl rfl ?_
      refine JL.pass rfl rfl rfl rfl ?_
      refine JL.pure rfl rfl ?_
      refine JL.pure rfl rfl ?_
      refine JL.pass rfl rfl rfl rfl ?_
      refine JL.pass rfl rfl rfl rfl ?_
      refine JL.pass rfl rfl rfl rfl ?_
      refine JL.pass rfl rfl rfl rfl ?_
      refine JL.pass rfl rfl rfl rfl ?_
      refine JL.pure rfl rfl ?_
      refine JL.pure rfl rfl ?_
      refine JL.pass rfl rfl rfl rfl ?_
      refine JL.pass rfl rfl rfl rfl ?_
      refine JL.pass rfl rfl rfl rfl ?_
      refine JL.pass rfl rfl rfl rfl ?_
      refine JL.pass rfl rfl rfl rfl ?_
      refine JL.pure rfl rfl ?_
      refine JL.nil ?_
      ((repeat refine Ex.normal_block ?_); refine Ex.next ?_)
      ((repeat refine JC.seq ?_); refine JC.cond rfl (fun _ => ?_) (fun h => by cases h))
      ((repeat refine JC.seq ?_); refine JC.region ?_)
      refine JL.pure rfl rfl ?_
      refine JL.pure rfl rfl ?_
      refine JL.nil ?_
      ((repeat refine Ex.normal_block ?_); refine Ex.next ?_)
      ((repeat refine JC.seq ?_); refine JC.ret ?_)
      (repeat (first | refine Ex.ret_then ?_ | refine Ex.ret_block ?_))
      refine Ex.ret2 rfl (.tmp rfl) (.tmp rfl) ?_
      have he : boxR g lo hi = ([], 2) := by
        unfold boxR
        rw [if_neg]
        intro h
        simp only [Bool.and_eq_true, decide_eq_true_eq] at h
        first
          | omega
          | simp_all
      rw [he]
      exact ⟨.slice none 0 0, rfl, (((H.drop 0).drop 0).drop 0).nilRow 140 3⟩
    · intro h25
      (try simp only [Bool.not_eq_true', Bool.not_eq_false', decide_eq_true_eq, decide_eq_false_iff_not] at h25)
      have hok : g.ok = true := by simpa using h25
      obtain ⟨hgW, hgH, hgS, hgl⟩ := Grid.ok_b hok
      refine JL.want rfl rfl ?_
      refine JL.pure rfl rfl ?_
      refine JL.want rfl rfl ?_
      refine JL.pure rfl rfl ?_
      refine JL.pure rfl rfl ?_
      refine JL.pure rfl rfl ?_
      refine JL.pass rfl rfl rfl rfl ?_
      refine JL.pass rfl rfl rfl rfl ?_
      refine JL.pass rfl rfl rfl rfl ?_
      refine JL.pass rfl rfl rfl rfl ?_
      refine JL.pass rfl rfl rfl rfl ?_
      refine JL.pure rfl rfl ?_
      refine JL.pure rfl rfl ?_
      refine JL.pass rfl rfl rfl rfl ?_
      refine JL.pass rfl rfl rfl rfl ?_
      refine JL.pass rfl rfl rfl rfl ?_
      refine JL.pass rfl rfl rfl rfl ?_
      refine JL.pass rfl rfl rfl rfl ?_
      refine JL.pure rfl rfl ?_
      refine JL.nil ?_
      ((repeat refine Ex.normal_block ?_); refine Ex.next ?_)
      ((repeat refine JC.seq ?_); refine JC.cond rfl (fun _ => ?_) (fun h => by cases h))
      ((repeat refine JC.seq ?_); refine JC.region ?_)
      refine JL.pure rfl rfl ?_
      refine JL.pure rfl rfl ?_
      refine JL.nil ?_
      ((repeat refine Ex.normal_block ?_); refine Ex.next ?_)
      ((repeat refine JC.seq ?_); refine JC.ret ?_)
      (repeat (first | refine Ex.ret_then ?_ | refine Ex.ret_block ?_))
      refine Ex.ret2 rfl (.tmp rfl) (.tmp rfl) ?_
      have he : boxR g lo hi = ([], 2) := by
        unfold boxR
        rw [if_neg]
        intro h
        simp only [Bool.and_eq_true, decide_eq_true_eq] at h
        first
          | omega
          | simp_all
      rw [he]
      exact ⟨.slice none 0 0, rfl, (((H.drop 0).drop 0).drop 0).nilRow 140 3⟩
end Go.J

namespace Go.J
open Go.RowKit Go.Proofs
set_option maxRecDepth 8000
set_option linter.unusedSimpArgs false
set_option linter.unusedVariables false
theorem corn_yes {g : Grid} {a b : Spot} {A : Cell → Prop} {x : Cell} {i : Nat} (h : 0 ≤ cornI g a b x i) (c : Cell) : ((A c ∨ (c = x ∧ ∃ j, j < i ∧ 0 ≤ cornI g a b c j)) ∨ c = x) ↔ (A c ∨ (c = x ∧ ∃ j, j < i + 1 ∧ 0 ≤ cornI g a b c j)) := by
  constructor
  · rintro ((h1 | ⟨rfl, j, hj, h2⟩) | rfl)
    · exact .inl h1
    · exact .inr ⟨rfl, j, by omega, h2⟩
    · exact .inr ⟨rfl, i, by omega, h⟩
  · rintro (h1 | ⟨rfl, _⟩)
    · exact .inl (.inl h1)
    · exact .inr rfl
theorem corn_no {g : Grid} {a b : Spot} {A : Cell → Prop} {x : Cell} {i : Nat} (h : ¬ 0 ≤ cornI g a b x i) (c : Cell) : (A c ∨ (c = x ∧ ∃ j, j < i ∧ 0 ≤ cornI g a b c j)) ↔ (A c ∨ (c = x ∧ ∃ j, j < i + 1 ∧ 0 ≤ cornI g a b c j)) := by
  refine or_congr_right (and_congr_right fun hx => ?_)
  subst hx
  constructor
  · rintro ⟨j, hj, h2⟩; exact ⟨j, by omega, h2⟩
  · rintro ⟨j, hj, h2⟩
    rcases Nat.lt_or_ge j i with h3 | h3
    · exact ⟨j, h3, h2⟩
    · exfalso; have : j = i := by omega
      subst this; exact h h2
theorem corn_eq {g : Grid} {a b : Spot} {c : Cell} {i : Nat} : cornI g a b c i = (b.X - a.X) * (c.Y * g.S + (i : Int) / 2 * (g.S - 1) - a.Y) - (b.Y - a.Y) * (c.X * g.S + (i : Int) % 2 * (g.S - 1) - a.X) := by
  unfold cornI
  rw [show ((i / 2 : Nat) : Int) = (i : Int) / 2 by omega, show ((i % 2 : Nat) : Int) = (i : Int) % 2 by omega]
theorem halfRef_c (g : Grid) (lv : Value) (a b : Spot) (w : World) (hl : SlR w lv g.land) : Calls Try.prog 82 #[g.ev lv, a.ev, b.ev] w (fun e w' => ResR w w' [] (halfR g a b) e) := by
  obtain ⟨la, lc, rfl⟩ := hl.len
  refine calls_J (args := [g.ev (.slice la g.land.length lc), a.ev, b.ev]) Try.func82 rfl Try.ntmps82 rfl ?_
  have H := Own.start w
  ((repeat refine JC.seq ?_); refine JC.region ?_)
  refine JL.box H rfl rfl rfl ?_
  intro b3 w1 H
  refine JL.box H rfl rfl rfl ?_
  intro b4 w2 H
  refine JL.box H rfl rfl rfl ?_
  intro b5 w3 H
  refine JL.pure rfl rfl ?_
  refine JL.pure rfl rfl ?_
  refine JL.nil ?_
  ((repeat refine Ex.normal_block ?_); refine Ex.next ?_)
  ((repeat refine JC.seq ?_); refine JC.region ?_)
  refine JL.loadB 2 H rfl sh52 rfl rfl rfl ?_
  refine JL.callP H fb170 rfl rfl (gridR_c g _ _ (hl.grow H.below)) ?_
  intro w4 H _
  refine JL.pure rfl rfl ?_
  refine JL.nil ?_
  ((repeat refine Ex.normal_block ?_); refine Ex.next ?_)
  ((repeat refine JC.seq ?_); refine JC.region ?_)
  refine JL.loadB 1 H rfl sh23 rfl rfl rfl ?_
  refine JL.callP H fb171 rfl rfl (spotR_c _ _) ?_
  intro w5 H _
  refine JL.pure rfl rfl ?_
  refine JL.cases 20 rfl ?_ ?_
  · intro h20
    (try simp only [Bool.not_eq_true', Bool.not_eq_false', decide_eq_true_eq, decide_eq_false_iff_not] at h20)
    have hlo : a.ok = true := by simpa using h20
    refine JL.want rfl rfl ?_
    refine JL.loadB 0 H rfl sh23 rfl rfl rfl ?_
    refine JL.want rfl rfl ?_
    refine JL.callP H fb171 rfl rfl (spotR_c _ _) ?_
    intro w6 H _
    refine JL.pure rfl rfl ?_
    refine JL.pure rfl rfl ?_
    refine JL.nil ?_
    ((repeat refine Ex.normal_block ?_); refine Ex.next ?_)
    ((repeat refine JC.seq ?_); refine JC.region ?_)
    refine JL.pure rfl rfl ?_
    refine JL.pure rfl rfl ?_
    refine JL.pure rfl rfl ?_
    refine JL.cases 26 rfl ?_ ?_
    · intro h26
      (try simp only [Bool.not_eq_true', Bool.not_eq_false', decide_eq_true_eq, decide_eq_false_iff_not] at h26)
      have hok : g.ok = false := by simpa using h26
      refine JL.pass rfl rfl rfl rfl ?_
      refine JL.pass rfl rfl rfl rfl ?_
      refine JL.pure rfl rfl ?_
      refine JL.pure rfl rfl ?_
      refine JL.pass rfl rfl rfl rfl ?_
      refine JL.pass rfl rfl rfl rfl ?_
      refine JL.pass rfl rfl rfl rfl ?_
      refine JL.pure rfl rfl ?_
      refine JL.nil ?_
      ((repeat refine Ex.normal_block ?_); refine Ex.next ?_)
      ((repeat refine JC.seq ?_); refine JC.cond rfl (fun _ => ?_) (fun h => by cases h))
      ((repeat refine JC.seq ?_); refine JC.region ?_)
      refine JL.pure rfl rfl ?_
      refine JL.pure rfl rfl ?_
      refine JL.nil ?_
      ((repeat refine Ex.normal_block ?_); refine Ex.next ?_)
      ((repeat refine JC.seq ?_); refine JC.ret ?_)
      (repeat (first | refine Ex.ret_then ?_ | refine Ex.ret_block ?_))
      refine Ex.ret2 rfl (.tmp rfl) (.tmp rfl) ?_
      have he : halfR g a b = ([], 2) := by
        unfold halfR
        rw [if_neg]
        intro h
        simp only [Bool.and_eq_true, decide_eq_true_eq] at h
        simp_all
      rw [he]
      exact ⟨.slice none 0 0, rfl, (((H.drop 0).drop 0).drop 0).nilRow 140 3⟩
    · intro h26
      (try simp only [Bool.not_eq_true', Bool.not_eq_false', decide_eq_true_eq, decide_eq_false_iff_not] at h26)
      have hok : g.ok = true := by simpa using h26
      obtain ⟨hgW, hgH, hgS, hgl⟩ := Grid.ok_b hok
      refine JL.want rfl rfl ?_
      refine JL.pure rfl rfl ?_
      refine JL.want rfl rfl ?_
      refine JL.pure rfl rfl ?_
      refine JL.pure rfl rfl ?_
      refine JL.pure rfl rfl ?_
      refine JL.cases 30 rfl ?_ ?_
      · intro h30
        (try simp only [Bool.not_eq_true', Bool.not_eq_false', decide_eq_true_eq, decide_eq_false_iff_not] at h30)
        have hab : b.ok = false := by simpa using h30
        refine JL.pass rfl rfl rfl rfl ?_
        refine JL.pass rfl rfl rfl rfl ?_
        refine JL.pass rfl rfl rfl rfl ?_
        refine JL.pure rfl rfl ?_
        refine JL.nil ?_
        ((repeat refine Ex.normal_block ?_); refine Ex.next ?_)
        ((repeat refine JC.seq ?_); refine JC.cond rfl (fun _ => ?_) (fun h => by cases h))
        ((repeat refine JC.seq ?_); refine JC.region ?_)
        refine JL.pure rfl rfl ?_
        refine JL.pure rfl rfl ?_
        refine JL.nil ?_
        ((repeat refine Ex.normal_block ?_); refine Ex.next ?_)
        ((repeat refine JC.seq ?_); refine JC.ret ?_)
        (repeat (first | refine Ex.ret_then ?_ | refine Ex.ret_block ?_))
        refine Ex.ret2 rfl (.tmp rfl) (.tmp rfl) ?_
        have he : halfR g a b = ([], 2) := by
          unfold halfR
          rw [if_neg]
          intro h
          simp only [Bool.and_eq_true, decide_eq_true_eq] at h
          simp_all
        rw [he]
        exact ⟨.slice none 0 0, rfl, (((H.drop 0).drop 0).drop 0).nilRow 140 3⟩
      · intro h30
        (try simp only [Bool.not_eq_true', Bool.not_eq_false', decide_eq_true_eq, decide_eq_false_iff_not] at h30)
        have hab : b.ok = true := by simpa using h30
        have hlb := Spot.ok_b hlo
        have hhb := Spot.ok_b hab
        refine JL.want rfl rfl ?_
        refine JL.loadB 1 H rfl sh23 rfl rfl rfl ?_
        refine JL.want rfl rfl ?_
        refine JL.loadB 0 H rfl sh23 rfl rfl rfl ?_
        refine JL.want rfl rfl ?_
        refine JL.eqs rfl rfl (eqTwo (by decide) _ _ _ _).1 rfl ?_
        refine JL.pure rfl rfl ?_
        refine JL.nil ?_
        ((repeat refine Ex.normal_block ?_); refine Ex.next ?_)
        ((repeat refine JC.seq ?_); refine JC.cond rfl ?_ ?_)
        · intro h34
          (try simp only [Bool.not_eq_true', Bool.not_eq_false', decide_eq_true_eq, decide_eq_false_iff_not] at h34)
          have hne : a = b := by cases a; cases b; simpa using h34
          ((repeat refine JC.seq ?_); refine JC.region ?_)
          refine JL.pure rfl rfl ?_
          refine JL.pure rfl rfl ?_
          refine JL.nil ?_
          ((repeat refine Ex.normal_block ?_); refine Ex.next ?_)
          ((repeat refine JC.seq ?_); refine JC.ret ?_)
          (repeat (first | refine Ex.ret_then ?_ | refine Ex.ret_block ?_))
          refine Ex.ret2 rfl (.tmp rfl) (.tmp rfl) ?_
          have he : halfR g a b = ([], 2) := by
            unfold halfR
            rw [if_neg]
            intro h
            simp only [Bool.and_eq_true, decide_eq_true_eq] at h
            simp_all
          rw [he]
          exact ⟨.slice none 0 0, rfl, (((H.drop 0).drop 0).drop 0).nilRow 140 3⟩
        · intro h34
          (try simp only [Bool.not_eq_true', Bool.not_eq_false', decide_eq_true_eq, decide_eq_false_iff_not] at h34)
          have hne : a ≠ b := by rintro rfl; simp at h34
          ((repeat refine JC.seq ?_); refine JC.skip ?_)
          ((repeat refine Ex.normal_block ?_); refine Ex.next ?_)
          ((repeat refine JC.seq ?_); refine JC.region ?_)
          refine JL.makeMap Cell.ev Value.bool H rfl ?_
          intro β w1 H
          refine JL.pure rfl rfl ?_
          refine JL.nil ?_
          ((repeat refine Ex.normal_block ?_); refine Ex.next ?_)
          ((repeat refine JC.seq ?_); refine JC.region ?_)
          refine JL.loadB 3 H rfl sh52 rfl rfl rfl ?_
          refine JL.call fb172 rfl rfl (every_c g _ _ (hl.grow H.below) (by omega) (by omega)) ?_
          rintro _ w7 ⟨cv, rfl, K⟩
          have hall : ∀ c ∈ everyR g.W.toNat g.H.toNat, inG g c := fun c hc => (every_inG (by omega) (by omega)).1 hc
          have hlen : (everyR g.W.toNat g.H.toNat).length ≤ 65536 := by rw [everyR_len]; exact nat_mul_bd (by omega) (by omega)
          generalize hev : everyR g.W.toNat g.H.toNat = l at *
          obtain ⟨ca, cc, rfl⟩ := K.row_slice (j := 0) rfl
          have H := H.join K
          refine ⟨_, rfl, ?_⟩
          refine JL.pure rfl rfl ?_
          refine JL.nil ?_
          ((repeat refine Ex.normal_block ?_); refine Ex.next ?_)
          ((repeat refine JC.seq ?_); refine JC.region ?_)
          refine JL.pure rfl rfl ?_
          refine JL.nil ?_
          ((repeat refine Ex.normal_block ?_); refine Ex.next ?_)
          ((repeat refine JC.seq ?_); refine JC.block ?_)
          ((repeat refine JC.seq ?_); refine JC.loop (ι := Nat × List (Cell × Bool)) (fun x => [(3, .pointer (some ⟨b3, 0, none⟩)), (4, .pointer (some ⟨b4, 0, none⟩)), (5, .pointer (some ⟨b5, 0, none⟩)), (10, .map (some β)), (11, .slice ca l.length cc), (12, .int .i64 x.1)])
            (fun x wr => x.1 ≤ l.length ∧ MSet x.2 (fun c => c ∈ l.take x.1 ∧ leftI g a b c = true) ∧ Own w wr [cellRow (.slice ca l.length cc) l, setM β x.2, blk b5 (.cells ⟨[.int .i64 b.X, .int .i64 b.Y]⟩ 23 (0, 0)), blk b4 (.cells ⟨[.int .i64 a.X, .int .i64 a.Y]⟩ 23 (0, 0)), blk b3 (.cells ⟨[.int .i64 g.W, .int .i64 g.H, .int .i64 g.S, .slice la g.land.length lc]⟩ 52 (0, 0))]) (fun x => l.length - x.1) (0, []) ?_ ?_ ?_)
          · exact ⟨rfl, rfl, rfl, rfl, rfl, rfl, trivial⟩
          · exact ⟨Nat.zero_le _, MSet.nil.congr fun c => by simp, H⟩
          · rintro ⟨k, m⟩ wr ⟨hk, hm, H⟩
            simp only at hk hm H
            show JC _ _ _ _ [(3, .pointer (some ⟨b3, 0, none⟩)), (4, .pointer (some ⟨b4, 0, none⟩)), (5, .pointer (some ⟨b5, 0, none⟩)), (10, .map (some β)), (11, .slice ca l.length cc), (12, .int .i64 k)] _
            ((repeat refine JC.seq ?_); refine JC.region ?_)
            refine JL.pure rfl rfl ?_
            refine JL.pure rfl rfl ?_
            refine JL.len rfl Try.underlying68 rfl ?_
            refine JL.pure rfl rfl ?_
            refine JL.nil ?_
            ((repeat refine Ex.normal_block ?_); refine Ex.next ?_)
            ((repeat refine JC.seq ?_); refine JC.cond rfl ?_ ?_)
            · intro h41
              (try simp only [Bool.not_eq_true', Bool.not_eq_false', decide_eq_true_eq, decide_eq_false_iff_not] at h41)
              have h41 : k < l.length := by omega
              have hx : l[k]? = some l[k] := by simp [h41]
              have hin := hall _ (List.getElem_mem h41)
              unfold inG at hin
              obtain ⟨g2, c2, hg2, _, _, _⟩ := H.rowAt (j := 0) (e := 62) (sz := 2) (enc := Cell.cs) (fun _ => rfl) rfl hx
              simp only [Value.slice.injEq] at hg2
              obtain ⟨rfl, _, rfl⟩ := hg2
              have m1 := mul_bd (M := 0) hin.1.1 (by omega) (show 0 ≤ g.S by omega) hgS.2
              have m2 := mul_bd (M := 0) hin.2.1 (by omega) (show 0 ≤ g.S by omega) hgS.2
              ((repeat refine JC.seq ?_); refine JC.skip ?_)
              ((repeat refine Ex.normal_block ?_); refine Ex.next ?_)
              ((repeat refine JC.seq ?_); refine JC.block ?_)
              ((repeat refine JC.seq ?_); refine JC.region ?_)
              refine JL.pure rfl rfl ?_
              refine JL.nil ?_
              ((repeat refine Ex.normal_block ?_); refine Ex.next ?_)
              ((repeat refine JC.seq ?_); refine JC.block ?_)
              ((repeat refine JC.seq ?_); refine JC.loop (ι := Nat × List (Cell × Bool)) (fun x => [(3, .pointer (some ⟨b3, 0, none⟩)), (4, .pointer (some ⟨b4, 0, none⟩)), (5, .pointer (some ⟨b5, 0, none⟩)), (10, .map (some β)), (11, .slice (some ⟨g2, 0, none⟩) l.length cc), (12, .int .i64 k), (13, .int .i64 x.1)])
                (fun x wr => x.1 ≤ 4 ∧ MSet x.2 (fun c => (c ∈ l.take k ∧ leftI g a b c = true) ∨ (c = l[k] ∧ ∃ j, j < x.1 ∧ 0 ≤ cornI g a b c j)) ∧ Own w wr [cellRow (.slice (some ⟨g2, 0, none⟩) l.length cc) l, setM β x.2, blk b5 (.cells ⟨[.int .i64 b.X, .int .i64 b.Y]⟩ 23 (0, 0)), blk b4 (.cells ⟨[.int .i64 a.X, .int .i64 a.Y]⟩ 23 (0, 0)), blk b3 (.cells ⟨[.int .i64 g.W, .int .i64 g.H, .int .i64 g.S, .slice la g.land.length lc]⟩ 52 (0, 0))]) (fun x => 4 - x.1) (0, m) ?_ ?_ ?_)
              · exact ⟨rfl, rfl, rfl, rfl, rfl, rfl, rfl, trivial⟩
              · exact ⟨Nat.zero_le _, hm.congr fun c => by simp, H⟩
              · rintro ⟨i, m⟩ wr ⟨hi, hm, H⟩
                simp only at hi hm H
                show JC _ _ _ _ [(3, .pointer (some ⟨b3, 0, none⟩)), (4, .pointer (some ⟨b4, 0, none⟩)), (5, .pointer (some ⟨b5, 0, none⟩)), (10, .map (some β)), (11, .slice (some ⟨g2, 0, none⟩) l.length cc), (12, .int .i64 k), (13, .int .i64 i)] _
                ((repeat refine JC.seq ?_); refine JC.region ?_)
                refine JL.pure rfl rfl ?_
                refine JL.pure rfl rfl ?_
                refine JL.nil ?_
                ((repeat refine Ex.normal_block ?_); refine Ex.next ?_)
                ((repeat refine JC.seq ?_); refine JC.cond rfl ?_ ?_)
                · intro h45
                  (try simp only [Bool.not_eq_true', Bool.not_eq_false', decide_eq_true_eq, decide_eq_false_iff_not] at h45)
                  have h45 : i < 4 := by omega
                  have p1 : 0 ≤ (i : Int) % 2 * (g.S - 1) ∧ (i : Int) % 2 * (g.S - 1) ≤ 50000 := by rcases (show (i : Int) % 2 = 0 ∨ (i : Int) % 2 = 1 by omega) with h | h <;> rw [h] <;> omega
                  have p2 : 0 ≤ (i : Int) / 2 * (g.S - 1) ∧ (i : Int) / 2 * (g.S - 1) ≤ 50000 := by rcases (show (i : Int) / 2 = 0 ∨ (i : Int) / 2 = 1 by omega) with h | h <;> rw [h] <;> omega
                  have q1 := mul_bd2 (A := 33554432) (B := 100000000) (a := b.X - a.X) (b := l[k].Y * g.S + (i : Int) / 2 * (g.S - 1) - a.Y) (by omega) (by omega) (by omega) (by omega)
                  have q2 := mul_bd2 (A := 33554432) (B := 100000000) (a := b.Y - a.Y) (b := l[k].X * g.S + (i : Int) % 2 * (g.S - 1) - a.X) (by omega) (by omega) (by omega) (by omega)
                  ((repeat refine JC.seq ?_); refine JC.skip ?_)
                  ((repeat refine Ex.normal_block ?_); refine Ex.next ?_)
                  ((repeat refine JC.seq ?_); refine JC.block ?_)
                  ((repeat refine JC.seq ?_); refine JC.draw 16 H mixed (by kernel_rfl) rfl ?_)
                  refine JD.pure rfl rfl ?_
                  refine JD.pure rfl rfl ?_
                  refine JD.indexS k rfl rfl Try.underlying68 sh62 rfl h41 rfl ?_
                  refine JD.fieldAddr rfl Try.underlying62 rfl sh3 rfl ?_
                  refine JD.load rfl sh3 (fun w hw => (hw.rowLd (j := 0) (e := 62) (sz := 2) (enc := Cell.cs) (fun _ => rfl) rfl hx).part 0 rfl 1) rfl ?_
                  refine JD.fieldAddr rfl Try.underlying52 rfl sh3 rfl ?_
                  refine JD.loadB 4 rfl sh3 rfl rfl rfl ?_
                  refine JD.arith rfl (by unfold In64; omega) rfl ?_
                  refine JD.pure rfl rfl ?_
                  first
                    | refine JD.remP rfl rfl (by omega) (by omega) rfl ?_
                    | refine JD.rem rfl rfl (by omega) rfl ?_
                  refine JD.fieldAddr rfl Try.underlying52 rfl sh3 rfl ?_
                  refine JD.loadB 4 rfl sh3 rfl rfl rfl ?_
                  refine JD.arith rfl (by unfold In64; omega) rfl ?_
                  refine JD.arith rfl (by unfold In64; omega) rfl ?_
                  refine JD.arith rfl (by unfold In64; omega) rfl ?_
                  refine JD.pure rfl rfl ?_
                  refine JD.nil ?_
                  intro w8 H
                  show JL _ _ _ _ _ _ _
                  refine JL.nil ?_
                  ((repeat refine Ex.normal_block ?_); refine Ex.next ?_)
                  ((repeat refine JC.seq ?_); refine JC.draw 16 H mixed (by kernel_rfl) rfl ?_)
                  refine JD.pure rfl rfl ?_
                  refine JD.pure rfl rfl ?_
                  refine JD.indexS k rfl rfl Try.underlying68 sh62 rfl h41 rfl ?_
                  refine JD.fieldAddr rfl Try.underlying62 rfl sh3 rfl ?_
                  refine JD.load rfl sh3 (fun w hw => (hw.rowLd (j := 0) (e := 62) (sz := 2) (enc := Cell.cs) (fun _ => rfl) rfl hx).part 1 rfl 1) rfl ?_
                  refine JD.fieldAddr rfl Try.underlying52 rfl sh3 rfl ?_
                  refine JD.loadB 4 rfl sh3 rfl rfl rfl ?_
                  refine JD.arith rfl (by unfold In64; omega) rfl ?_
                  refine JD.pure rfl rfl ?_
                  first
                    | refine JD.quoP rfl rfl (by omega) (by omega) (by omega) rfl ?_
                    | refine JD.quo rfl rfl (by omega) rfl ?_
                  refine JD.fieldAddr rfl Try.underlying52 rfl sh3 rfl ?_
                  refine JD.loadB 4 rfl sh3 rfl rfl rfl ?_
                  refine JD.arith rfl (by unfold In64; omega) rfl ?_
                  refine JD.arith rfl (by unfold In64; omega) rfl ?_
                  refine JD.arith rfl (by unfold In64; omega) rfl ?_
                  refine JD.pure rfl rfl ?_
                  refine JD.nil ?_
                  intro w9 H
                  show JL _ _ _ _ _ _ _
                  refine JL.nil ?_
                  ((repeat refine Ex.normal_block ?_); refine Ex.next ?_)
                  ((repeat refine JC.seq ?_); refine JC.region ?_)
                  refine JL.fieldAddr rfl Try.underlying23 rfl sh3 rfl ?_
                  refine JL.loadB 2 H rfl sh3 rfl rfl rfl ?_
                  refine JL.fieldAddr rfl Try.underlying23 rfl sh3 rfl ?_
                  refine JL.loadB 3 H rfl sh3 rfl rfl rfl ?_
                  refine JL.arith rfl (by unfold In64; omega) rfl ?_
                  refine JL.pure rfl rfl ?_
                  refine JL.fieldAddr rfl Try.underlying23 rfl sh3 rfl ?_
                  refine JL.loadB 3 H rfl sh3 rfl rfl rfl ?_
                  refine JL.arith rfl (by unfold In64; omega) rfl ?_
                  refine JL.arith rfl (by unfold In64; omega) rfl ?_
                  refine JL.fieldAddr rfl Try.underlying23 rfl sh3 rfl ?_
                  refine JL.loadB 2 H rfl sh3 rfl rfl rfl ?_
                  refine JL.fieldAddr rfl Try.underlying23 rfl sh3 rfl ?_
                  refine JL.loadB 3 H rfl sh3 rfl rfl rfl ?_
                  refine JL.arith rfl (by unfold In64; omega) rfl ?_
                  refine JL.pure rfl rfl ?_
                  refine JL.fieldAddr rfl Try.underlying23 rfl sh3 rfl ?_
                  refine JL.loadB 3 H rfl sh3 rfl rfl rfl ?_
                  refine JL.arith rfl (by unfold In64; omega) rfl ?_
                  refine JL.arith rfl (by unfold In64; omega) rfl ?_
                  refine JL.arith rfl (by unfold In64; omega) rfl ?_
                  refine JL.pure rfl rfl ?_
                  refine JL.nil ?_
                  ((repeat refine Ex.normal_block ?_); refine Ex.next ?_)
                  ((repeat refine JC.seq ?_); refine JC.cond rfl ?_ ?_)
                  · intro h99
                    (try simp only [Bool.not_eq_true', Bool.not_eq_false', decide_eq_true_eq, decide_eq_false_iff_not] at h99)
                    ((repeat refine JC.seq ?_); refine JC.region ?_)
                    refine JL.pure rfl rfl ?_
                    refine JL.pure rfl rfl ?_
                    refine JL.pure rfl rfl ?_
                    refine JL.indexS k rfl rfl Try.underlying68 sh62 rfl h41 rfl ?_
                    refine JL.load rfl sh62 (H.rowLd (j := 0) (e := 62) (sz := 2) (enc := Cell.cs) (fun _ => rfl) rfl hx) rfl ?_
                    refine JL.mapUpdate 1 H l[k] true rfl rfl rfl Try.underlying202 keyCell rfl rfl ?_
                    intro w10 H
                    refine JL.nil ?_
                    ((repeat refine Ex.normal_block ?_); refine Ex.next ?_)
                    ((repeat refine JC.seq ?_); refine JC.region ?_)
                    refine JL.pure rfl rfl ?_
                    refine JL.arith rfl (by unfold In64; omega) rfl ?_
                    refine JL.pure rfl rfl ?_
                    refine JL.nil ?_
                    (repeat refine Ex.normal_block ?_)
                    have hcor : 0 ≤ cornI g a b l[k] i := by rw [corn_eq]; omega
                    refine Ex.again (i + 1, mset m l[k] true) ⟨rfl, rfl, rfl, rfl, rfl, rfl, rfl, trivial⟩ ⟨h45, (hm.set l[k]).congr fun c => corn_yes (A := fun c => c ∈ l.take k ∧ leftI g a b c = true) hcor c, H⟩ (by simp only; omega)
                  · intro h99
                    (try simp only [Bool.not_eq_true', Bool.not_eq_false', decide_eq_true_eq, decide_eq_false_iff_not] at h99)
                    ((repeat refine JC.seq ?_); refine JC.skip ?_)
                    ((repeat refine Ex.normal_block ?_); refine Ex.next ?_)
                    ((repeat refine JC.seq ?_); refine JC.region ?_)
                    refine JL.pure rfl rfl ?_
                    refine JL.arith rfl (by unfold In64; omega) rfl ?_
                    refine JL.pure rfl rfl ?_
                    refine JL.nil ?_
                    (repeat refine Ex.normal_block ?_)
                    have hcor : ¬ 0 ≤ cornI g a b l[k] i := by rw [corn_eq]; omega
                    refine Ex.again (i + 1, m) ⟨rfl, rfl, rfl, rfl, rfl, rfl, rfl, trivial⟩ ⟨h45, hm.congr fun c => corn_no (A := fun c => c ∈ l.take k ∧ leftI g a b c = true) hcor c, H⟩ (by simp only; omega)
                · intro h45
                  (try simp only [Bool.not_eq_true', Bool.not_eq_false', decide_eq_true_eq, decide_eq_false_iff_not] at h45)
                  
                  ((repeat refine JC.seq ?_); refine JC.exit ?_)
                  (repeat (first | refine Ex.exit_then ?_ | refine Ex.exit_miss (by decide) ?_))
                  refine Ex.exit_hit ?_
                  ((repeat refine Ex.normal_block ?_); refine Ex.next ?_)
                  ((repeat refine JC.seq ?_); refine JC.region ?_)
                  refine JL.pure rfl rfl ?_
                  refine JL.arith rfl (by unfold In64; omega) rfl ?_
                  refine JL.pure rfl rfl ?_
                  refine JL.nil ?_
                  (repeat refine Ex.normal_block ?_)
                  have hi4 : i = 4 := by omega
                  subst hi4
                  refine Ex.again (k + 1, m) ⟨rfl, rfl, rfl, rfl, rfl, rfl, trivial⟩ ⟨h41, hm.congr fun c => ?_, H⟩ (by simp only; omega)
                  simp only
                  rw [List.take_succ_eq_append_getElem h41, List.mem_append, List.mem_singleton, ← corner_left hgS.1]
                  constructor
                  · rintro (⟨h1, h2⟩ | ⟨h1, h2⟩)
                    · exact ⟨.inl h1, h2⟩
                    · exact ⟨.inr h1, h2⟩
                  · rintro ⟨h1 | h1, h2⟩
                    · exact .inl ⟨h1, h2⟩
                    · exact .inr ⟨h1, h2⟩
            · intro h41
              (try simp only [Bool.not_eq_true', Bool.not_eq_false', decide_eq_true_eq, decide_eq_false_iff_not] at h41)
              have hkk : k = l.length := by omega
              subst hkk
              rw [List.take_length] at hm
              ((repeat refine JC.seq ?_); refine JC.exit ?_)
              (repeat (first | refine Ex.exit_then ?_ | refine Ex.exit_miss (by decide) ?_))
              refine Ex.exit_hit ?_
              ((repeat refine Ex.normal_block ?_); refine Ex.next ?_)
              ((repeat refine JC.seq ?_); refine JC.region ?_)
              refine JL.loadB 4 H rfl sh52 rfl rfl rfl ?_
              refine JL.pure rfl rfl ?_
              refine JL.call fb173 rfl rfl (runs_c g _ β m _ (hl.grow H.below) (by omega) (by omega) (H.mapAt (i := 1) rfl)) ?_
              rintro _ w11 ⟨rv, rfl, K⟩
              have H := H.join K
              refine ⟨_, rfl, ?_⟩
              refine JL.pure rfl rfl ?_
              refine JL.pure rfl rfl ?_
              refine JL.pure rfl rfl ?_
              refine JL.pure rfl rfl ?_
              refine JL.nil ?_
              ((repeat refine Ex.normal_block ?_); refine Ex.next ?_)
              ((repeat refine JC.seq ?_); refine JC.ret ?_)
              (repeat (first | refine Ex.ret_then ?_ | refine Ex.ret_block ?_))
              refine Ex.ret2 rfl (.tmp rfl) (.tmp rfl) ?_
              subst hev
              rw [halfR_eq hok hlo hab hne (set_all (by omega) (by omega) hm)]
              exact ⟨_, rfl, (((((H.drop 1).drop 1).drop 1).drop 1).drop 1)⟩
  · intro h20
    (try simp only [Bool.not_eq_true', Bool.not_eq_false', decide_eq_true_eq, decide_eq_false_iff_not] at h20)
    have hlo : a.ok = false := by simpa using h20
    refine JL.pass rfl rfl rfl rfl ?_
    refine JL.pass rfl rfl rfl rfl ?_
    refine JL.pure rfl rfl ?_
    refine JL.pure rfl rfl ?_
    refine JL.nil ?_
    ((repeat refine Ex.normal_block ?_); refine Ex.next ?_)
    ((repeat refine JC.seq ?_); refine JC.region ?_)
    refine JL.pure rfl rfl ?_
    refine JL.pure rfl rfl ?_
    refine JL.pure rfl rfl ?_
    refine JL.cases 26 rfl ?_ ?_
    · intro h26
      (try simp only [Bool.not_eq_true', Bool.not_eq_false', decide_eq_true_eq, decide_eq_false_iff_not] at h26)
      have hok : g.ok = false := by simpa using h26
      refine JL.pass rfl rfl rfl rfl ?_
      refine JL.pass rfl rfl rfl rfl ?_
      refine JL.pure rfl rfl ?_
      refine JL.pure rfl rfl ?_
      refine JL.pass rfl rfl rfl rfl ?_
      refine JL.pass rfl rfl rfl rfl ?_
      refine JL.pass rfl rfl rfl rfl ?_
      refine JL.pure rfl rfl ?_
      refine JL.nil ?_
      ((repeat refine Ex.normal_block ?_); refine Ex.next ?_)
      ((repeat refine JC.seq ?_); refine JC.cond rfl (fun _ => ?_) (fun h => by cases h))
      ((repeat refine JC.seq ?_); refine JC.region ?_)
      refine JL.pure rfl rfl ?_
      refine JL.pure rfl rfl ?_
      refine JL.nil ?_
      ((repeat refine Ex.normal_block ?_); refine Ex.next ?_)
      ((repeat refine JC.seq ?_); refine JC.ret ?_)
      (repeat (first | refine Ex.ret_then ?_ | refine Ex.ret_block ?_))
      refine Ex.ret2 rfl (.tmp rfl) (.tmp rfl) ?_
      have he : halfR g a b = ([], 2) := by
        unfold halfR
        rw [if_neg]
        intro h
        simp only [Bool.and_eq_true, decide_eq_true_eq] at h
        simp_all
      rw [he]
      exact ⟨.slice none 0 0, rfl, (((H.drop 0).drop 0).drop 0).nilRow 140 3⟩
    · intro h26
      (try simp only [Bool.not_eq_true', Bool.not_eq_false', decide_eq_true_eq, decide_eq_false_iff_not] at h26)
      have hok : g.ok = true := by simpa using h26
      obtain ⟨hgW, hgH, hgS, hgl⟩ := Grid.ok_b hok
      refine JL.want rfl rfl ?_
      refine JL.pure rfl rfl ?_
      refine JL.want rfl rfl ?_
      refine JL.pure rfl rfl ?_
      refine JL.pure rfl rfl ?_
      refine JL.pure rfl rfl ?_
      refine JL.pass rfl rfl rfl rfl ?_
      refine JL.pass rfl rfl rfl rfl ?_
      refine JL.pass rfl rfl rfl rfl ?_
      refine JL.pure rfl rfl ?_
      refine JL.nil ?_
      ((repeat refine Ex.normal_block ?_); refine Ex.next ?_)
      ((repeat refine JC.seq ?_); refine JC.cond rfl (fun _ => ?_) (fun h => by cases h))
      ((repeat refine JC.seq ?_); refine JC.region ?_)
      refine JL.pure rfl rfl ?_
      refine JL.pure rfl rfl ?_
      refine JL.nil ?_
      ((repeat refine Ex.normal_block ?_); refine Ex.next ?_)
      ((repeat refine JC.seq ?_); refine JC.ret ?_)
      (repeat (first | refine Ex.ret_then ?_ | refine Ex.ret_block ?_))
      refine Ex.ret2 rfl (.tmp rfl) (.tmp rfl) ?_
      have he : halfR g a b = ([], 2) := by
        unfold halfR
        rw [if_neg]
        intro h
        simp only [Bool.and_eq_true, decide_eq_true_eq] at h
        simp_all
      rw [he]
      exact ⟨.slice none 0 0, rfl, (((H.drop 0).drop 0).drop 0).nilRow 140 3⟩
theorem same59_c (av bv : Value) (a b : List Run) (e f : Int) (w : World) (ha : SlR w av a) (hb : SlR w bv b) : Pur Try.prog 59 #[av, .int .i64 e, bv, .int .i64 f] w (.bool (decide (a = b ∧ e = f))) := by
  obtain ⟨aa, ac, rfl⟩ := ha.len
  obtain ⟨ba, bc, rfl⟩ := hb.len
  refine pur_J (args := [.slice aa a.length ac, .int .i64 e, .slice ba b.length bc, .int .i64 f]) Try.func59 rfl Try.ntmps59 rfl ?_
  have H := Own.start w
  ((repeat refine JC.seq ?_); refine JC.region ?_)
  refine JL.pure rfl rfl ?_
  refine JL.nil ?_
  ((repeat refine Ex.normal_block ?_); refine Ex.next ?_)
  ((repeat refine JC.seq ?_); refine JC.region ?_)
  refine JL.pure rfl rfl ?_
  refine JL.pure rfl rfl ?_
  refine JL.callP H fb67 rfl rfl (same_c _ _ a b _ (ha.grow H.below) (hb.grow H.below)) ?_
  intro w1 H _
  refine JL.pure rfl rfl ?_
  refine JL.cases 12 rfl ?_ ?_
  · intro h12
    (try simp only [Bool.not_eq_true', Bool.not_eq_false', decide_eq_true_eq, decide_eq_false_iff_not] at h12)
    refine JL.want rfl rfl ?_
    refine JL.pure rfl rfl ?_
    refine JL.want rfl rfl ?_
    refine JL.pure rfl rfl ?_
    refine JL.want rfl rfl ?_
    refine JL.pure rfl rfl ?_
    refine JL.pure rfl rfl ?_
    refine JL.pure rfl rfl ?_
    refine JL.nil ?_
    ((repeat refine Ex.normal_block ?_); refine Ex.next ?_)
    ((repeat refine JC.seq ?_); refine JC.ret ?_)
    (repeat (first | refine Ex.ret_then ?_ | refine Ex.ret_block ?_))
    refine Ex.ret1 rfl (.tmp rfl) ⟨?_, H.below⟩
    simp_all
  · intro h12
    (try simp only [Bool.not_eq_true', Bool.not_eq_false', decide_eq_true_eq, decide_eq_false_iff_not] at h12)
    refine JL.pass rfl rfl rfl rfl ?_
    refine JL.pass rfl rfl rfl rfl ?_
    refine JL.pass rfl rfl rfl rfl ?_
    refine JL.pure rfl rfl ?_
    refine JL.pure rfl rfl ?_
    refine JL.nil ?_
    ((repeat refine Ex.normal_block ?_); refine Ex.next ?_)
    ((repeat refine JC.seq ?_); refine JC.ret ?_)
    (repeat (first | refine Ex.ret_then ?_ | refine Ex.ret_block ?_))
    refine Ex.ret1 rfl (.tmp rfl) ⟨?_, H.below⟩
    simp_all
theorem boxR_len (g : Grid) (a b : Spot) : (boxR g a b).1.length ≤ 8192 := by
  unfold boxR; split
  · exact regRes_len _
  · simp
theorem gridShapes_w (g : Grid) (lv : Value) (a b : Spot) (radius : Int) (w : World) (hl : SlR w lv g.land) : Pur Try.prog 14 #[g.ev lv, a.ev, b.ev, .int .i64 radius] w (.bool true) := by
  refine pur_J (args := [g.ev lv, a.ev, b.ev, .int .i64 radius]) Try.func14 rfl Try.ntmps14 rfl ?_
  have H := Own.start w
  ((repeat refine JC.seq ?_); refine JC.region ?_)
  refine JL.box H rfl rfl rfl ?_
  intro b4 w1 H
  refine JL.box H rfl rfl rfl ?_
  intro b5 w2 H
  refine JL.box H rfl rfl rfl ?_
  intro b6 w3 H
  refine JL.pure rfl rfl ?_
  refine JL.nil ?_
  ((repeat refine Ex.normal_block ?_); refine Ex.next ?_)
  ((repeat refine JC.seq ?_); refine JC.region ?_)
  refine JL.loadB 2 H rfl sh52 rfl rfl rfl ?_
  refine JL.callP H fb41 rfl rfl (great_c g lv _ 4096 [] _ (hl.grow H.below) (nilSl _) (by simp)) ?_
  intro w4 H _
  refine JL.nil ?_
  ((repeat refine Ex.normal_block ?_); refine Ex.next ?_)
  ((repeat refine JC.seq ?_); refine JC.cond rfl ?_ ?_)
  · intro h22
    (try simp only [Bool.not_eq_true', Bool.not_eq_false', decide_eq_true_eq, decide_eq_false_iff_not] at h22)
    ((repeat refine JC.seq ?_); refine JC.region ?_)
    refine JL.callP H fb40 rfl rfl (alive_c _) ?_
    intro w5 H _
    refine JL.pure rfl rfl ?_
    refine JL.nil ?_
    ((repeat refine Ex.normal_block ?_); refine Ex.next ?_)
    ((repeat refine JC.seq ?_); refine JC.ret ?_)
    (repeat (first | refine Ex.ret_then ?_ | refine Ex.ret_block ?_))
    refine Ex.ret1 rfl (.tmp rfl) ⟨rfl, H.below⟩
  · intro h22
    (try simp only [Bool.not_eq_true', Bool.not_eq_false', decide_eq_true_eq, decide_eq_false_iff_not] at h22)
    ((repeat refine JC.seq ?_); refine JC.skip ?_)
    ((repeat refine Ex.normal_block ?_); refine Ex.next ?_)
    ((repeat refine JC.seq ?_); refine JC.region ?_)
    refine JL.loadB 2 H rfl sh52 rfl rfl rfl ?_
    refine JL.loadB 1 H rfl sh23 rfl rfl rfl ?_
    refine JL.loadB 0 H rfl sh23 rfl rfl rfl ?_
    refine JL.call fb79 rfl rfl (box_c g lv a b _ (hl.grow H.below)) ?_
    rintro _ w6 ⟨vx1, rfl, K⟩
    have H := H.join K
    refine ⟨_, rfl, ?_⟩
    refine JL.pure rfl rfl ?_
    refine JL.pure rfl rfl ?_
    refine JL.pure rfl rfl ?_
    refine JL.pure rfl rfl ?_
    refine JL.pure rfl rfl ?_
    refine JL.nil ?_
    ((repeat refine Ex.normal_block ?_); refine Ex.next ?_)
    ((repeat refine JC.seq ?_); refine JC.region ?_)
    refine JL.loadB 3 H rfl sh52 rfl rfl rfl ?_
    refine JL.loadB 2 H rfl sh23 rfl rfl rfl ?_
    refine JL.loadB 1 H rfl sh23 rfl rfl rfl ?_
    refine JL.call fb80 rfl rfl (boxRef_c g lv a b _ (hl.grow H.below)) ?_
    rintro _ w7 ⟨vx2, rfl, K⟩
    have H := H.join K
    refine ⟨_, rfl, ?_⟩
    refine JL.pure rfl rfl ?_
    refine JL.pure rfl rfl ?_
    refine JL.pure rfl rfl ?_
    refine JL.pure rfl rfl ?_
    refine JL.pure rfl rfl ?_
    refine JL.nil ?_
    ((repeat refine Ex.normal_block ?_); refine Ex.next ?_)
    ((repeat refine JC.seq ?_); refine JC.region ?_)
    refine JL.loadB 4 H rfl sh52 rfl rfl rfl ?_
    refine JL.loadB 3 H rfl sh23 rfl rfl rfl ?_
    refine JL.pure rfl rfl ?_
    refine JL.call fb77 rfl rfl (disc_c g lv a radius _ (hl.grow H.below)) ?_
    rintro _ w8 ⟨vx3, rfl, K⟩
    have H := H.join K
    refine ⟨_, rfl, ?_⟩
    refine JL.pure rfl rfl ?_
    refine JL.pure rfl rfl ?_
    refine JL.pure rfl rfl ?_
    refine JL.pure rfl rfl ?_
    refine JL.pure rfl rfl ?_
    refine JL.nil ?_
    ((repeat refine Ex.normal_block ?_); refine Ex.next ?_)
    ((repeat refine JC.seq ?_); refine JC.region ?_)
    refine JL.loadB 5 H rfl sh52 rfl rfl rfl ?_
    refine JL.loadB 4 H rfl sh23 rfl rfl rfl ?_
    refine JL.pure rfl rfl ?_
    refine JL.call fb81 rfl rfl (discR_c g lv a radius _ (hl.grow H.below)) ?_
    rintro _ w9 ⟨vx4, rfl, K⟩
    have H := H.join K
    refine ⟨_, rfl, ?_⟩
    refine JL.pure rfl rfl ?_
    refine JL.pure rfl rfl ?_
    refine JL.pure rfl rfl ?_
    refine JL.pure rfl rfl ?_
    refine JL.pure rfl rfl ?_
    refine JL.nil ?_
    ((repeat refine Ex.normal_block ?_); refine Ex.next ?_)
    ((repeat refine JC.seq ?_); refine JC.region ?_)
    refine JL.loadB 6 H rfl sh52 rfl rfl rfl ?_
    refine JL.loadB 5 H rfl sh23 rfl rfl rfl ?_
    refine JL.loadB 4 H rfl sh23 rfl rfl rfl ?_
    refine JL.call fb78 rfl rfl (half_c g lv a b _ (hl.grow H.below)) ?_
    rintro _ w10 ⟨vx5, rfl, K⟩
    have H := H.join K
    refine ⟨_, rfl, ?_⟩
    refine JL.pure rfl rfl ?_
    refine JL.pure rfl rfl ?_
    refine JL.pure rfl rfl ?_
    refine JL.pure rfl rfl ?_
    refine JL.pure rfl rfl ?_
    refine JL.nil ?_
    ((repeat refine Ex.normal_block ?_); refine Ex.next ?_)
    ((repeat refine JC.seq ?_); refine JC.region ?_)
    refine JL.loadB 7 H rfl sh52 rfl rfl rfl ?_
    refine JL.loadB 6 H rfl sh23 rfl rfl rfl ?_
    refine JL.loadB 5 H rfl sh23 rfl rfl rfl ?_
    refine JL.call fb82 rfl rfl (halfRef_c g lv a b _ (hl.grow H.below)) ?_
    rintro _ w11 ⟨vx6, rfl, K⟩
    have H := H.join K
    refine ⟨_, rfl, ?_⟩
    refine JL.pure rfl rfl ?_
    refine JL.pure rfl rfl ?_
    refine JL.pure rfl rfl ?_
    refine JL.pure rfl rfl ?_
    refine JL.pure rfl rfl ?_
    refine JL.nil ?_
    ((repeat refine Ex.normal_block ?_); refine Ex.next ?_)
    ((repeat refine JC.seq ?_); refine JC.region ?_)
    refine JL.pure rfl rfl ?_
    refine JL.pure rfl rfl ?_
    refine JL.pure rfl rfl ?_
    refine JL.pure rfl rfl ?_
    refine JL.callP H fb59 rfl rfl (v := .bool true) (by have := same59_c vx1 vx2 (boxR g a b).1 (boxR g a b).1 (boxR g a b).2 (boxR g a b).2 _ (runSl H (j := 5) rfl (by have := boxR_len g a b; omega)) (runSl H (j := 4) rfl (by have := boxR_len g a b; omega)); simpa using this) ?_
    intro w12 H _
    refine JL.pure rfl rfl ?_
    refine JL.want rfl rfl ?_
    refine JL.pure rfl rfl ?_
    refine JL.want rfl rfl ?_
    refine JL.pure rfl rfl ?_
    refine JL.want rfl rfl ?_
    refine JL.pure rfl rfl ?_
    refine JL.want rfl rfl ?_
    refine JL.pure rfl rfl ?_
    refine JL.want rfl rfl ?_
    refine JL.callP H fb59 rfl rfl (v := .bool true) (by have := same59_c vx3 vx4 (discR g a radius).1 (discR g a radius).1 (discR g a radius).2 (discR g a radius).2 _ (runSl H (j := 3) rfl (by have := discR_len g a radius; omega)) (runSl H (j := 2) rfl (by have := discR_len g a radius; omega)); simpa using this) ?_
    intro w13 H _
    refine JL.pure rfl rfl ?_
    refine JL.pure rfl rfl ?_
    refine JL.want rfl rfl ?_
    refine JL.pure rfl rfl ?_
    refine JL.want rfl rfl ?_
    refine JL.pure rfl rfl ?_
    refine JL.want rfl rfl ?_
    refine JL.pure rfl rfl ?_
    refine JL.want rfl rfl ?_
    refine JL.pure rfl rfl ?_
    refine JL.want rfl rfl ?_
    refine JL.callP H fb59 rfl rfl (v := .bool true) (by have := same59_c vx5 vx6 (halfR g a b).1 (halfR g a b).1 (halfR g a b).2 (halfR g a b).2 _ (runSl H (j := 1) rfl (by have := halfR_len g a b; omega)) (runSl H (j := 0) rfl (by have := halfR_len g a b; omega)); simpa using this) ?_
    intro w14 H _
    refine JL.pure rfl rfl ?_
    refine JL.pure rfl rfl ?_
    refine JL.want rfl rfl ?_
    refine JL.callP H fb40 rfl rfl (alive_c _) ?_
    intro w15 H _
    refine JL.pure rfl rfl ?_
    refine JL.pure rfl rfl ?_
    refine JL.nil ?_
    ((repeat refine Ex.normal_block ?_); refine Ex.next ?_)
    ((repeat refine JC.seq ?_); refine JC.ret ?_)
    (repeat (first | refine Ex.ret_then ?_ | refine Ex.ret_block ?_))
    refine Ex.ret1 rfl (.tmp rfl) ⟨rfl, H.below⟩
end Go.J

namespace Go.J
set_option linter.unusedSimpArgs false
set_option linter.unusedVariables false
open Go.RowKit
/-! ## rows that are made before they are filled -/
section
variable {P : Program} {N : Sz} {ops : Array Oper} {Q : Exit → Act → World → Prop} {rest : List Oper} {fr : Fr} {w w0 : World} {L : List HP}
  {d : Option Tmp} {ty : TypeId} {pos : String} {af : Array Edge}
theorem JL.capS {x : Operand} {t e : TypeId} {a0 : Option Addr} {n c : Nat} (hx : fr.ev x = some (.slice a0 n c)) (hu : P.underlying t = some (.slice e)) (hd : Fr.fits N d = true)
    (k : JL P N ops Q rest (fr.put d (.int .i64 c)) w) : JL P N ops Q (⟨d, .call ⟨.builtin .cap, #[x], #[t]⟩, ty, pos, af, none⟩ :: rest) fr w :=
  JL.val rfl hd (fun a H => by
    simp only [execOp, resolve]
    simp [H.eval hx, invoke, builtin, Builtin.cap_, run_underlying hu, goInt]) k
theorem run_append_zeros {P : Program} (w : World) (t u ty e : TypeId) (i : TypeInfo) (z : Value) (ht : P.underlying t = some (.slice e)) (hu : P.underlying u = some (.int .i64)) (hi : P.info? e = some i) (hz : i.zero = some z)
    (n : Nat) (h0 : 0 < n) (hsz : 0 < i.size) (h63 : n ≤ 1000000000) (h48 : n * i.bytes ≤ 140737488355328) :
    (Builtin.append_ #[t, u] ty #[.slice none 0 0, .int .i64 n]).run P w =
      .ok (.slice (some ⟨w.heap.size, 0, none⟩) n (grownCap w n 0 e)) (w.drew.alloc (.cells (Builtin.zeroCells z.cells n ++ Builtin.zeroCells z.cells (grownCap w n 0 e - n)) e)) := by
  have hn : n ≠ 0 := by omega
  have h63' : ¬ (9223372036854775807 < (n : Int)) := by omega
  have h48' : ¬ (281474976710656 < Builtin.nextslicecap n 0 * i.bytes) := by rw [nextslicecap_zero h0]; omega
  have hw : IntKind.i64.wrap (n : Int) = n := w64_id (by unfold In64; omega)
  have hneg : ¬ ((n : Int) < 0) := by omega
  have h48i : ¬ (281474976710656 < (n : Int) * (i.bytes : Int)) := by
    have : ((n * i.bytes : Nat) : Int) ≤ 140737488355328 := by omega
    rw [Int.natCast_mul] at this
    omega
  have hns : ¬ (n = 0 ∨ i.size = 0) := by omega
  simp [Builtin.append_, run_underlying ht, run_underlying hu, sizeOf, typeInfo, zeroValue, hi, hz, asInt, asIntOf, hw, hneg, h48i, Builtin.lenOf, hn, h63', h48', Question.forced, run_firstCells_none, newRow, grownCap, hns]
  intro h
  rcases Nat.mul_eq_zero.1 h with h | h <;> omega
theorem JL.appendZ {s x : Operand} {t u e : TypeId} {sz bytes n : Nat} (H : Own w0 w L) (ht : P.underlying t = some (.slice e)) (hu : P.underlying u = some (.int .i64)) (ha : tyApp P e = some (sz, bytes))
    (hs : fr.ev s = some (.slice none 0 0)) (hx : fr.ev x = some (.int .i64 n)) (h0 : 0 < n) (hb : n * bytes ≤ 140737488355328) (h63 : n ≤ 1000000000) (hd : Fr.fits N d = true)
    (k : ∀ g c cur w', n ≤ c → c ≤ maxLen → cur.size = c * sz → Own w0 w' (blk g (.cells cur e (0, 0)) :: L) → JL P N ops Q rest (fr.put d (.slice (some ⟨g, 0, none⟩) n c)) w') :
    JL P N ops Q (⟨d, .call ⟨.builtin .append, #[s, x], #[t, u]⟩, ty, pos, af, none⟩ :: rest) fr w := by
  unfold tyApp at ha
  split at ha
  · rename_i i hinfo
    split at ha
    · rename_i z hz
      cases hc : (Nat.beq z.cells.size i.size && Nat.ble 1 i.size) with
      | false => rw [hc] at ha; cases ha
      | true =>
        rw [hc] at ha
        cases ha
        simp only [Bool.and_eq_true] at hc
        have hzs := Nat.eq_of_beq_eq_true hc.1
        have hsz := Nat.le_of_ble_eq_true hc.2
        have hr := run_append_zeros (P := P) w t u ty e i z ht hu hinfo hz n h0 (by omega) h63 hb
        have hge := grownCap_ge w n 0 e
        have hcm : grownCap w n 0 e ≤ maxLen := grownCap_le_maxLen w n 0 e (by simp only [maxLen]; omega)
        refine JL.val rfl hd (fun a Ha => ?_) (k w.heap.size (grownCap w n 0 e) (Builtin.zeroCells z.cells n ++ Builtin.zeroCells z.cells (grownCap w n 0 e - n)) _ hge hcm ?_ (H.drew.new _))
        · simp only [execOp, resolve, invoke, builtin, Sem.run_bind, Sem.run_pure, Result.andThen_ok, List.map_toArray, List.map_cons, List.map_nil, Ha.eval hs, Ha.eval hx, hr]
        · simp only [Array.size_append, size_zeroCells, hzs, ← Nat.add_mul]
          congr 1
          omega
    · cases ha
  · cases ha
/-- x[:y], of a slice of ours -/
theorem run_sliceTo {t e : TypeId} {a : Option Addr} {n cap m sz : Nat} {b : Bool} {k : IntKind} (hu : P.underlying t = some (.slice e)) (hs : tySh P e = some (b, sz)) (hm : m ≤ cap) :
    (Instr.slice t (.slice a n cap) none (some (.int k m)) none).run P w = .ok (.slice a m cap) w := by
  have hm' : (m : Int) ≤ (cap : Int) := by omega
  have h0 : ¬ ((m : Int) < 0) := by omega
  simp only [Instr.slice]
  rw [Sem.run_bind, run_underlying hu]
  simp only [Result.andThen]
  cases a with
  | none =>
    simp [Instr.sliceBounds, Instr.sliceBound, asIntOf, hm', h0, (tySh_agg hs w).2, Addr.add]
    exact fun h => absurd h (by omega)
  | some a =>
    simp [Instr.sliceBounds, Instr.sliceBound, asIntOf, hm', h0, (tySh_agg hs w).2, Addr.add]
    exact fun h => absurd h (by omega)
theorem JL.sliceTo {x y : Operand} {t e : TypeId} {a : Option Addr} {n cap m sz : Nat} {b : Bool} {kd : IntKind} (hx : fr.ev x = some (.slice a n cap)) (hy : fr.ev y = some (.int kd m)) (hu : P.underlying t = some (.slice e)) (hs : tySh P e = some (b, sz)) (hm : m ≤ cap) (hd : Fr.fits N d = true)
    (k : JL P N ops Q rest (fr.put d (.slice a m cap)) w) : JL P N ops Q (⟨d, .slice t x none (some y) none, ty, pos, af, none⟩ :: rest) fr w :=
  JL.val rfl hd (fun a H => by
    simp only [execOp, Option.map_some, Option.map_none, H.eval hx, H.eval hy]
    simp only [Instr.sliceAt]
    rw [Sem.run_bind, Sem.run_bind, run_underlying hu]
    simp only [Result.andThen]
    rw [run_sliceTo hu hs hm]
    rfl) k
/-- append of nothing -/
theorem JL.append0 {s x : Operand} {t e : TypeId} {v : Value} {sz bytes n c : Nat} {b : Option Addr} {xs : List Value} (j : Nat) (H : Own w0 w L) (ht : P.underlying t = some (.slice e)) (ha : tyApp P e = some (sz, bytes))
    (hs : fr.ev s = some v) (hx : fr.ev x = some (.slice b 0 c)) (hi : L[j]? = some (row e sz v n xs)) (hd : Fr.fits N d = true)
    (k : JL P N ops Q rest (fr.put d v) w) :
    JL P N ops Q (⟨d, .call ⟨.builtin .append, #[s, x], #[t, t]⟩, ty, pos, af, none⟩ :: rest) fr w := by
  unfold tyApp at ha
  split at ha
  · rename_i i hinfo
    obtain ⟨_, hshape⟩ := H.row_shape hi
    refine JL.val rfl hd (fun a Ha => ?_) k
    have hf : (Builtin.firstCells i.size 0 (.slice b 0 c)).run P w = .ok #[] w := by
      cases b <;> simp [Builtin.firstCells, loadCells, loadCellsFrom]
    rcases hshape with ⟨rfl, rfl⟩ | ⟨g, cap, cur, rfl, hnc, _⟩
    · simp only [execOp, resolve, invoke, builtin, Sem.run_bind, Sem.run_pure, Result.andThen_ok, List.map_toArray, List.map_cons, List.map_nil, Ha.eval hs, Ha.eval hx]
      simp [Builtin.append_, run_underlying ht, sizeOf, typeInfo, hinfo, Builtin.lenOf, hf]
    · simp only [execOp, resolve, invoke, builtin, Sem.run_bind, Sem.run_pure, Result.andThen_ok, List.map_toArray, List.map_cons, List.map_nil, Ha.eval hs, Ha.eval hx]
      simp [Builtin.append_, run_underlying ht, sizeOf, typeInfo, hinfo, Builtin.lenOf, hf, hnc, storeCells]
  · cases ha
end
/-- cells of a slice, flat -/
theorem Sl.flat {α : Type} {enc : α → List Value} {sz : Nat} {w : World} {β off n cap : Nat} {xs : List α} (he : ∀ x, (enc x).length = sz) (h0 : 0 < sz) (h : Sl (fun x => .agg ⟨enc x⟩) (true, sz) w (.slice (some ⟨β, off, none⟩) n cap) xs) :
    ∀ k u, (xs.flatMap enc)[k]? = some u → w.cell? ⟨β, off + k, none⟩ = some u := by
  intro k u hu
  obtain ⟨_, a, c, h2, h3⟩ := h
  cases h2
  have hk : k < (xs.flatMap enc).length := (List.getElem?_eq_some_iff.1 hu).1
  rw [flat_len he] at hk
  rcases h3 with rfl | ⟨β', off', h4, _, h6⟩
  · simp at hk
  · cases h4
    have hi : k / sz < xs.length := Nat.div_lt_of_lt_mul (by rw [Nat.mul_comm]; exact hk)
    have hx : xs[k / sz]? = some xs[k / sz] := by simp [hi]
    obtain ⟨l, e1, e2, e3⟩ := h6 _ _ hx
    cases e1
    have hm : k % sz < sz := Nat.mod_lt _ h0
    have hq := flat_get he hx hm
    have hdm : k / sz * sz + k % sz = k := by rw [Nat.mul_comm]; exact Nat.div_add_mod k sz
    rw [hdm] at hq
    rw [hq] at hu
    have := e3 _ _ hu
    simp only at this
    rwa [show off + k / sz * sz + k % sz = off + k by omega] at this
end Go.J

namespace Go.J
set_option linter.unusedSimpArgs false
set_option linter.unusedVariables false
/-! plain: the cells of one of two, and of one that are not of the other -/
theorem hasB_cons {x : Run} {r : List Run} {c : Cell} : hasB (x :: r) c = true ↔ (x.Y = c.Y ∧ x.From ≤ c.X ∧ c.X < x.To) ∨ hasB r c = true := by
  rw [show x :: r = [x] ++ r from rfl, hasB_append, hasB_one]
theorem hasB_nil {c : Cell} : ¬ hasB [] c = true := by simp [hasB]
theorem othRow_ok {W H y : Int} : ∀ (r : List Run) (a : Int), Canon W H r → (∀ x ∈ r, y ≤ x.Y) → (∀ x ∈ r, x.Y = y → a ≤ x.From) → 0 ≤ a →
    ((∀ s ∈ (othRow W y a r).1, s.Y = y ∧ a ≤ s.From ∧ s.From < s.To ∧ s.To ≤ W) ∧ (othRow W y a r).1.Pairwise (fun r s => r.To < s.From)) ∧
    (∀ x, a ≤ x → (hasB (othRow W y a r).1 ⟨x, y⟩ = true ↔ x < W ∧ ¬ hasB r ⟨x, y⟩ = true)) ∧
    Canon W H (othRow W y a r).2 ∧ (∀ x ∈ (othRow W y a r).2, y + 1 ≤ x.Y) ∧ (∀ c : Cell, y < c.Y → (hasB (othRow W y a r).2 c = true ↔ hasB r c = true)) := by
  have fin : ∀ (r : List Run) (a : Int), (∀ x ∈ r, y < x.Y) → ((∀ s ∈ (if a < W then [(⟨y, a, W⟩ : Run)] else []), s.Y = y ∧ a ≤ s.From ∧ s.From < s.To ∧ s.To ≤ W) ∧ (if a < W then [(⟨y, a, W⟩ : Run)] else []).Pairwise (fun r s => r.To < s.From)) ∧
      (∀ x, a ≤ x → (hasB (if a < W then [(⟨y, a, W⟩ : Run)] else []) ⟨x, y⟩ = true ↔ x < W ∧ ¬ hasB r ⟨x, y⟩ = true)) := by
    intro r a hr
    have hno : ∀ x, ¬ hasB r ⟨x, y⟩ = true := by
      intro x h
      obtain ⟨s, hs, h1, _⟩ := hasB_iff.1 h
      have := hr s hs
      simp only at h1
      omega
    by_cases h : a < W
    · rw [if_pos h]
      refine ⟨⟨?_, by simp⟩, fun x hx => ?_⟩
      · intro s hs
        simp only [List.mem_singleton] at hs
        subst hs
        exact ⟨rfl, Int.le_refl _, h, Int.le_refl _⟩
      · rw [hasB_one]
        simp only [hno, Bool.false_eq_true, not_false_eq_true, and_true, true_and]
        omega
    · rw [if_neg h]
      refine ⟨⟨by simp, by simp⟩, fun x hx => ?_⟩
      constructor
      · intro h'; exact absurd h' hasB_nil
      · intro h'; omega
  intro r
  induction r with
  | nil =>
    intro a hc _ _ h0
    have := fin [] a (by simp)
    unfold othRow
    exact ⟨this.1, this.2, hc, by simp, fun c _ => Iff.rfl⟩
  | cons x r ih =>
    intro a hc hy ha h0
    have hx := hc.rng x List.mem_cons_self
    have hord := List.pairwise_cons.1 hc.ord
    have hct : Canon W H r := ⟨fun z hz => hc.rng z (List.mem_cons_of_mem _ hz), hord.2⟩
    by_cases hxy : x.Y = y
    · rw [othRow, if_pos hxy]
      simp only
      obtain ⟨⟨i1, i2⟩, i3, i4, i5, i6⟩ := ih x.To hct (fun z hz => hy z (List.mem_cons_of_mem _ hz)) (fun z hz hzy => by have := hord.1 z hz; omega) (by omega)
      have hax := ha x List.mem_cons_self hxy
      have hG : ∀ s ∈ (if x.From > a then [(⟨y, a, x.From⟩ : Run)] else []), s = ⟨y, a, x.From⟩ ∧ a < x.From := by
        intro s hs
        split at hs
        · simp only [List.mem_singleton] at hs
          exact ⟨hs, by omega⟩
        · cases hs
      refine ⟨⟨?_, ?_⟩, ?_, i4, i5, ?_⟩
      · intro s hs
        rcases List.mem_append.1 hs with hs | hs
        · obtain ⟨rfl, h⟩ := hG s hs
          exact ⟨rfl, Int.le_refl _, h, by simp only; omega⟩
        · have := i1 s hs
          omega
      · refine List.pairwise_append.2 ⟨?_, i2, ?_⟩
        · split <;> simp
        · intro s hs t ht
          obtain ⟨rfl, h⟩ := hG s hs
          have := i1 t ht
          simp only
          omega
      · intro z hz
        rw [hasB_append, hasB_cons]
        have hg : hasB (if x.From > a then [(⟨y, a, x.From⟩ : Run)] else []) ⟨z, y⟩ = true ↔ z < x.From := by
          split
          · rw [hasB_one]; simp only [true_and]; omega
          · constructor
            · intro h; exact absurd h hasB_nil
            · intro h; omega
        rw [hg]
        simp only
        rcases Int.lt_or_le z x.To with h | h
        · have n1 : ¬ hasB (othRow W y x.To r).1 ⟨z, y⟩ = true := by
            intro h'
            obtain ⟨s, hs, _, h2, _⟩ := hasB_iff.1 h'
            have := i1 s hs
            simp only at h2
            omega
          have n2 : ¬ hasB r ⟨z, y⟩ = true := by
            intro h'
            obtain ⟨s, hs, h1, h2, _⟩ := hasB_iff.1 h'
            have := hord.1 s hs
            simp only at h1 h2
            omega
          simp only [n1, n2, Bool.false_eq_true, or_false]
          omega
        · rw [i3 z h]
          have : ¬ z < x.From := by omega
          have h' : ¬ (x.Y = y ∧ x.From ≤ z ∧ z < x.To) := by omega
          simp only [this, h', false_or]
      · intro c hcy
        rw [i6 c hcy, hasB_cons]
        have : ¬ (x.Y = c.Y ∧ x.From ≤ c.X ∧ c.X < x.To) := by omega
        simp only [this, false_or]
    · rw [othRow, if_neg hxy]
      have h1 := hy x List.mem_cons_self
      have hall : ∀ z ∈ x :: r, y < z.Y := by
        intro z hz
        rcases List.mem_cons.1 hz with rfl | hz
        · omega
        · have := hord.1 z hz; omega
      have := fin (x :: r) a hall
      exact ⟨this.1, this.2, hc, fun z hz => by have := hall z hz; omega, fun c _ => Iff.rfl⟩
theorem othN_ok {W H : Int} {rs : List Run} (hr : Canon W H rs) : ∀ n : Nat, (n : Int) ≤ H → Canon W H (othN W n rs).1 ∧ (∀ s ∈ (othN W n rs).1, s.Y < n) ∧ (∀ c : Cell, 0 ≤ c.X → 0 ≤ c.Y → c.Y < n → (hasB (othN W n rs).1 c = true ↔ c.X < W ∧ ¬ hasB rs c = true)) ∧
    Canon W H (othN W n rs).2 ∧ (∀ x ∈ (othN W n rs).2, (n : Int) ≤ x.Y) ∧ (∀ c : Cell, (n : Int) ≤ c.Y → (hasB (othN W n rs).2 c = true ↔ hasB rs c = true)) := by
  intro n
  induction n with
  | zero =>
    intro _
    refine ⟨canon_nil, by simp [othN], fun c _ h1 h2 => by omega, hr, fun x hx => (hr.rng x hx).1.1, fun c _ => Iff.rfl⟩
  | succ n ih =>
    intro hn
    obtain ⟨a1, a2, a3, a4, a5, a6⟩ := ih (by omega)
    obtain ⟨⟨b1, b2⟩, b3, b4, b5, b6⟩ := othRow_ok (y := (n : Int)) (othN W n rs).2 0 a4 a5 (fun x hx _ => (a4.rng x hx).2.1) (Int.le_refl 0)
    rw [othN]
    simp only
    refine ⟨⟨?_, ?_⟩, ?_, ?_, b4, fun x hx => by have := b5 x hx; omega, fun c hc => ?_⟩
    · intro s hs
      rcases List.mem_append.1 hs with hs | hs
      · exact a1.rng s hs
      · have := b1 s hs; omega
    · refine List.pairwise_append.2 ⟨a1.ord, b2.imp_of_mem (fun {r s} hr hs h => ?_), ?_⟩
      · have := b1 r hr; have := b1 s hs; omega
      · intro r hr s hs
        have := a2 r hr; have := b1 s hs
        omega
    · intro s hs
      rcases List.mem_append.1 hs with hs | hs
      · have := a2 s hs; omega
      · have := b1 s hs; omega
    · intro c h0 h1 h2
      rw [hasB_append]
      rcases Int.lt_or_le c.Y n with h | h
      · have n1 : ¬ hasB (othRow W n 0 (othN W n rs).2).1 c = true := by
          intro h'
          obtain ⟨s, hs, h3, _⟩ := hasB_iff.1 h'
          have := b1 s hs
          omega
        rw [a3 c h0 h1 h]
        simp only [n1, Bool.false_eq_true, or_false]
      · have hcy : c.Y = n := by omega
        have n1 : ¬ hasB (othN W n rs).1 c = true := by
          intro h'
          obtain ⟨s, hs, h3, _⟩ := hasB_iff.1 h'
          have := a2 s hs
          omega
        have hc : c = ⟨c.X, (n : Int)⟩ := by cases c; simp only [Cell.mk.injEq] at *; exact ⟨trivial, hcy⟩
        have := b3 c.X h0
        rw [← hc] at this
        rw [this, a6 c (by omega)]
        simp only [n1, Bool.false_eq_true, false_or]
    · rw [b6 c (by omega), a6 c (by omega)]
theorem others_has {g : Grid} (hg : g.ok = true) {b : List Run} (hb : Canon g.W g.H b) : Canon g.W g.H (othersR g b) ∧ ∀ c, hasB (othersR g b) c = true ↔ inG g c ∧ ¬ hasB b c = true := by
  obtain ⟨hW, hH, _, _⟩ := Grid.ok_b hg
  obtain ⟨a1, a2, a3, _⟩ := othN_ok hb g.H.toNat (by omega)
  refine ⟨a1, fun c => ?_⟩
  constructor
  · intro h
    have hc := canon_inG a1 h
    have hc' := hc
    unfold inG at hc'
    exact ⟨hc, ((a3 c (by omega) (by omega) (by omega)).1 h).2⟩
  · rintro ⟨hc, h⟩
    unfold inG at hc
    exact (a3 c (by omega) (by omega) (by omega)).2 ⟨by omega, h⟩
theorem without_has {g : Grid} (hg : g.ok = true) {a b : List Run} (ha : Canon g.W g.H a) (hb : Canon g.W g.H b) (c : Cell) : hasB (regR (bothT g.W g.H tab0 a (othersR g b))) c = true ↔ hasB a c = true ∧ ¬ hasB b c = true := by
  obtain ⟨h1, h2⟩ := others_has hg hb
  rw [both_has hg ha h1, h2]
  exact and_congr_right fun h => ⟨fun h => h.2, fun h' => ⟨canon_inG ha h, h'⟩⟩
def addAll (g : Grid) (T : Tab) (rs : List Run) : Tab := rs.foldl (fun T r => T.add g.W g.H r.Y r.From r.To) T
theorem addAll_take {g : Grid} {T : Tab} {rs : List Run} {k : Nat} (hk : k < rs.length) : addAll g T (rs.take (k + 1)) = (addAll g T (rs.take k)).add g.W g.H rs[k].Y rs[k].From rs[k].To := by
  unfold addAll; rw [List.take_succ_eq_append_getElem hk, List.foldl_append]; rfl
theorem addAll_good {g : Grid} : ∀ (rs : List Run) {T : Tab} {k : Nat}, Tab.good g.W k T → Tab.good g.W (k + rs.length) (addAll g T rs) := by
  intro rs
  induction rs with
  | nil => intro T k h; exact h
  | cons r rs ih =>
    intro T k h
    have := ih (h.add g.H r.Y r.From r.To)
    rw [List.length_cons, show k + (rs.length + 1) = k + 1 + rs.length by omega]
    exact this
theorem addAll_low {g : Grid} : ∀ (rs : List Run) {T : Tab}, Tab.low g.H T → Tab.low g.H (addAll g T rs) := by
  intro rs
  induction rs with
  | nil => intro T h; exact h
  | cons r rs ih => intro T h; exact ih (h.add _ _ _ _)
theorem addAll_cov {g : Grid} (hH : g.H ≤ 256) (Y : Nat) (x : Int) : ∀ (rs : List Run) (T : Tab) (k : Nat), Tab.good g.W k T → (∀ r ∈ rs, (0 ≤ r.Y ∧ r.Y < g.H) ∧ 0 ≤ r.From ∧ r.To ≤ g.W) → (tabCov (addAll g T rs) Y x ↔ tabCov T Y x ∨ hasB rs ⟨x, Y⟩ = true) := by
  intro rs
  induction rs with
  | nil => intro T k h _; simp [addAll, hasB]
  | cons r rs ih =>
    intro T k h hr
    have h1 := hr r List.mem_cons_self
    have := ih _ _ (h.add g.H r.Y r.From r.To) (fun z hz => hr z (List.mem_cons_of_mem _ hz))
    rw [show addAll g T (r :: rs) = addAll g (T.add g.W g.H r.Y r.From r.To) rs from rfl, this, add_cov h.len hH, hasB_cons, or_assoc]
    refine or_congr_right (or_congr_left ?_)
    simp only
    omega
def eitherR (g : Grid) (a b : List Run) : List Run × Int := if checkedB g [a, b] then regRes (addAll g tab0 (a ++ b)) else ([], 2)
theorem either_has {g : Grid} (hg : g.ok = true) {a b : List Run} (ha : Canon g.W g.H a) (hb : Canon g.W g.H b) (c : Cell) : hasB (regR (addAll g tab0 (a ++ b))) c = true ↔ hasB a c = true ∨ hasB b c = true := by
  obtain ⟨hW, hH, _, _⟩ := Grid.ok_b hg
  have hgd := addAll_good (g := g) (a ++ b) (tab0_good g.W)
  have hr : ∀ r ∈ a ++ b, (0 ≤ r.Y ∧ r.Y < g.H) ∧ 0 ≤ r.From ∧ r.To ≤ g.W := by
    intro r hr
    rcases List.mem_append.1 hr with h | h
    · have := ha.rng r h; omega
    · have := hb.rng r h; omega
  rw [regR_has hgd]
  constructor
  · rintro ⟨h1, h2, h3⟩
    rcases (addAll_cov hH.2 _ _ (a ++ b) tab0 0 (tab0_good g.W) hr).1 h3 with h | h
    · exact absurd h (by simp [tabCov0])
    · rw [show (⟨c.X, ((c.Y.toNat : Nat) : Int)⟩ : Cell) = c by cases c; simp only [Cell.mk.injEq, true_and]; simp only at h1; omega, hasB_append] at h
      exact h
  · intro h
    have hc : inG g c := h.elim (canon_inG ha) (canon_inG hb)
    unfold inG at hc
    refine ⟨by omega, by omega, (addAll_cov hH.2 _ _ (a ++ b) tab0 0 (tab0_good g.W) hr).2 (.inr ?_)⟩
    rw [show (⟨c.X, ((c.Y.toNat : Nat) : Int)⟩ : Cell) = c by cases c; simp only [Cell.mk.injEq, true_and]; simp only at hc; omega, hasB_append]
    exact h
end Go.J
