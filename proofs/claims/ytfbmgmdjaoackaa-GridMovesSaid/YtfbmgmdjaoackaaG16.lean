/-
  Lemmas for the statements of this seat; no statement is proved here. No condition.
-/
import Derived.Test.YtfbmgmdjaoackaaG15
import Derived.Test.YtfbmgmdjaoackaaJSeg
namespace Go.J
open Go.RowKit Go.Proofs
set_option maxRecDepth 8000
set_option linter.unusedSimpArgs false
set_option linter.unusedVariables false
def hugeB (g : Grid) (n : Int) : Bool := decide (0 < g.W) && decide (0 < g.H) && decide (g.W ≤ 256) && decide (g.H ≤ 256) && decide (n < g.W * g.H)
def greatB (g : Grid) (n : Int) (l : List (List Run)) : Bool := hugeB g n || decide (300 < g.land.length) || l.any fun r => decide (300 < r.length)
theorem great_c (g : Grid) (lv lsv : Value) (n : Int) (l : List (Value × List Run)) (w : World) (hl : SlR w lv g.land) (hs : Sl Prod.fst (false, 1) w lsv l) (hr : ∀ p ∈ l, SlR w p.1 p.2) :
    Pur Try.prog 41 #[g.ev lv, .int .i64 n, lsv] w (.bool (greatB g n (l.map Prod.snd))) := by
  obtain ⟨la, lc, rfl⟩ := hl.len
  obtain ⟨sa, sc, rfl⟩ := hs.len
  refine pur_J (args := [g.ev (.slice la g.land.length lc), .int .i64 n, .slice sa l.length sc]) Try.func41 rfl Try.ntmps41 rfl ?_
  have H := Own.start w
  ((repeat refine JC.seq ?_); refine JC.region ?_)
  refine JL.box H rfl rfl rfl ?_
  intro b3 w1 H
  refine JL.pure rfl rfl ?_
  refine JL.nil ?_
  ((repeat refine Ex.normal_block ?_); refine Ex.next ?_)
  ((repeat refine JC.seq ?_); refine JC.regionTo ([(2, .slice sa l.length sc), (40, .bool (hugeB g n || decide (300 < g.land.length)))]) (fun wr => Own w wr []) ?_ ?_)
  ·
    refine JL.fieldAddr rfl Try.underlying52 rfl sh3 rfl ?_
    refine JL.loadB 0 H rfl sh3 rfl rfl rfl ?_
    refine JL.pure rfl rfl ?_
    refine JL.pure rfl rfl ?_
    refine JL.cases 11 rfl ?_ ?_
    · intro h11
      (try simp only [Bool.not_eq_true', Bool.not_eq_false', decide_eq_true_eq, decide_eq_false_iff_not] at h11)
      refine JL.want rfl rfl ?_
      refine JL.fieldAddr rfl Try.underlying52 rfl sh3 rfl ?_
      refine JL.want rfl rfl ?_
      refine JL.loadB 0 H rfl sh3 rfl rfl rfl ?_
      refine JL.want rfl rfl ?_
      refine JL.pure rfl rfl ?_
      refine JL.pure rfl rfl ?_
      refine JL.pure rfl rfl ?_
      refine JL.cases 16 rfl ?_ ?_
      · intro h16
        (try simp only [Bool.not_eq_true', Bool.not_eq_false', decide_eq_true_eq, decide_eq_false_iff_not] at h16)
        refine JL.want rfl rfl ?_
        refine JL.fieldAddr rfl Try.underlying52 rfl sh3 rfl ?_
        refine JL.want rfl rfl ?_
        refine JL.loadB 0 H rfl sh3 rfl rfl rfl ?_
        refine JL.want rfl rfl ?_
        refine JL.pure rfl rfl ?_
        refine JL.pure rfl rfl ?_
        refine JL.pure rfl rfl ?_
        refine JL.cases 21 rfl ?_ ?_
        · intro h21
          (try simp only [Bool.not_eq_true', Bool.not_eq_false', decide_eq_true_eq, decide_eq_false_iff_not] at h21)
          refine JL.want rfl rfl ?_
          refine JL.fieldAddr rfl Try.underlying52 rfl sh3 rfl ?_
          refine JL.want rfl rfl ?_
          refine JL.loadB 0 H rfl sh3 rfl rfl rfl ?_
          refine JL.want rfl rfl ?_
          refine JL.pure rfl rfl ?_
          refine JL.pure rfl rfl ?_
          refine JL.pure rfl rfl ?_
          refine JL.cases 26 rfl ?_ ?_
          · intro h26
            (try simp only [Bool.not_eq_true', Bool.not_eq_false', decide_eq_true_eq, decide_eq_false_iff_not] at h26)
            refine JL.want rfl rfl ?_
            refine JL.fieldAddr rfl Try.underlying52 rfl sh3 rfl ?_
            refine JL.want rfl rfl ?_
            refine JL.loadB 0 H rfl sh3 rfl rfl rfl ?_
            refine JL.want rfl rfl ?_
            refine JL.fieldAddr rfl Try.underlying52 rfl sh3 rfl ?_
            refine JL.want rfl rfl ?_
            refine JL.loadB 0 H rfl sh3 rfl rfl rfl ?_
            refine JL.want rfl rfl ?_
            refine JL.arith rfl (by
              have h1 : g.W * g.H ≤ 256 * 256 := Int.mul_le_mul (by omega) (by omega) (by omega) (by omega)
              have h2 : 0 ≤ g.W * g.H := Int.mul_nonneg (by omega) (by omega)
              unfold In64; omega) rfl ?_
            refine JL.want rfl rfl ?_
            refine JL.pure rfl rfl ?_
            refine JL.want rfl rfl ?_
            refine JL.pure rfl rfl ?_
            refine JL.pure rfl rfl ?_
            refine JL.pure rfl rfl ?_
            refine JL.cases 35 rfl ?_ ?_
            · intro h35
              (try simp only [Bool.not_eq_true', Bool.not_eq_false', decide_eq_true_eq, decide_eq_false_iff_not] at h35)
              refine JL.pass rfl rfl rfl rfl ?_
              refine JL.pass rfl rfl rfl rfl ?_
              refine JL.pass rfl rfl rfl rfl ?_
              refine JL.pass rfl rfl rfl rfl ?_
              refine JL.pure rfl rfl ?_
              refine JL.nil ?_
              refine Ex.to ⟨rfl, ?_, trivial⟩ (H.drop 0)
              show some (Value.bool _) = some (Value.bool _)
              unfold hugeB
              first | (simp [*]; done) | (simp [*]; omega)
            · intro h35
              (try simp only [Bool.not_eq_true', Bool.not_eq_false', decide_eq_true_eq, decide_eq_false_iff_not] at h35)
              refine JL.want rfl rfl ?_
              refine JL.fieldAddr rfl Try.underlying52 rfl sh50 rfl ?_
              refine JL.want rfl rfl ?_
              refine JL.loadB 0 H rfl sh50 rfl rfl rfl ?_
              refine JL.want rfl rfl ?_
              refine JL.len rfl Try.underlying50 rfl ?_
              refine JL.want rfl rfl ?_
              refine JL.pure rfl rfl ?_
              refine JL.pure rfl rfl ?_
              refine JL.nil ?_
              refine Ex.to ⟨rfl, ?_, trivial⟩ (H.drop 0)
              show some (Value.bool _) = some (Value.bool _)
              unfold hugeB
              first | (simp [*]; done) | (simp [*]; omega)
          · intro h26
            (try simp only [Bool.not_eq_true', Bool.not_eq_false', decide_eq_true_eq, decide_eq_false_iff_not] at h26)
            refine JL.pass rfl rfl rfl rfl ?_
            refine JL.pass rfl rfl rfl rfl ?_
            refine JL.pass rfl rfl rfl rfl ?_
            refine JL.pass rfl rfl rfl rfl ?_
            refine JL.pass rfl rfl rfl rfl ?_
            refine JL.pass rfl rfl rfl rfl ?_
            refine JL.pass rfl rfl rfl rfl ?_
            refine JL.pure rfl rfl ?_
            refine JL.pure rfl rfl ?_
            refine JL.want rfl rfl ?_
            refine JL.fieldAddr rfl Try.underlying52 rfl sh50 rfl ?_
            refine JL.want rfl rfl ?_
            refine JL.loadB 0 H rfl sh50 rfl rfl rfl ?_
            refine JL.want rfl rfl ?_
            refine JL.len rfl Try.underlying50 rfl ?_
            refine JL.want rfl rfl ?_
            refine JL.pure rfl rfl ?_
            refine JL.pure rfl rfl ?_
            refine JL.nil ?_
            refine Ex.to ⟨rfl, ?_, trivial⟩ (H.drop 0)
            show some (Value.bool _) = some (Value.bool _)
            unfold hugeB
            first | (simp [*]; done) | (simp [*]; omega)
        · intro h21
          (try simp only [Bool.not_eq_true', Bool.not_eq_false', decide_eq_true_eq, decide_eq_false_iff_not] at h21)
          refine JL.pass rfl rfl rfl rfl ?_
          refine JL.pass rfl rfl rfl rfl ?_
          refine JL.pass rfl rfl rfl rfl ?_
          refine JL.pure rfl rfl ?_
          refine JL.pure rfl rfl ?_
          refine JL.pass rfl rfl rfl rfl ?_
          refine JL.pass rfl rfl rfl rfl ?_
          refine JL.pass rfl rfl rfl rfl ?_
          refine JL.pass rfl rfl rfl rfl ?_
          refine JL.pass rfl rfl rfl rfl ?_
          refine JL.pass rfl rfl rfl rfl ?_
          refine JL.pass rfl rfl rfl rfl ?_
          refine JL.pure rfl rfl ?_
          refine JL.pure rfl rfl ?_
          refine JL.want rfl rfl ?_
          refine JL.fieldAddr rfl Try.underlying52 rfl sh50 rfl ?_
          refine JL.want rfl rfl ?_
          refine JL.loadB 0 H rfl sh50 rfl rfl rfl ?_
          refine JL.want rfl rfl ?_
          refine JL.len rfl Try.underlying50 rfl ?_
          refine JL.want rfl rfl ?_
          refine JL.pure rfl rfl ?_
          refine JL.pure rfl rfl ?_
          refine JL.nil ?_
          refine Ex.to ⟨rfl, ?_, trivial⟩ (H.drop 0)
          show some (Value.bool _) = some (Value.bool _)
          unfold hugeB
          first | (simp [*]; done) | (simp [*]; omega)
      · intro h16
        (try simp only [Bool.not_eq_true', Bool.not_eq_false', decide_eq_true_eq, decide_eq_false_iff_not] at h16)
        refine JL.pass rfl rfl rfl rfl ?_
        refine JL.pass rfl rfl rfl rfl ?_
        refine JL.pass rfl rfl rfl rfl ?_
        refine JL.pure rfl rfl ?_
        refine JL.pure rfl rfl ?_
        refine JL.pass rfl rfl rfl rfl ?_
        refine JL.pass rfl rfl rfl rfl ?_
        refine JL.pass rfl rfl rfl rfl ?_
        refine JL.pure rfl rfl ?_
        refine JL.pure rfl rfl ?_
        refine JL.pass rfl rfl rfl rfl ?_
        refine JL.pass rfl rfl rfl rfl ?_
        refine JL.pass rfl rfl rfl rfl ?_
        refine JL.pass rfl rfl rfl rfl ?_
        refine JL.pass rfl rfl rfl rfl ?_
        refine JL.pass rfl rfl rfl rfl ?_
        refine JL.pass rfl rfl rfl rfl ?_
        refine JL.pure rfl rfl ?_
        refine JL.pure rfl rfl ?_
        refine JL.want rfl rfl ?_
        refine JL.fieldAddr rfl Try.underlying52 rfl sh50 rfl ?_
        refine JL.want rfl rfl ?_
        refine JL.loadB 0 H rfl sh50 rfl rfl rfl ?_
        refine JL.want rfl rfl ?_
        refine JL.len rfl Try.underlying50 rfl ?_
        refine JL.want rfl rfl ?_
        refine JL.pure rfl rfl ?_
        refine JL.pure rfl rfl ?_
        refine JL.nil ?_
        refine Ex.to ⟨rfl, ?_, trivial⟩ (H.drop 0)
        show some (Value.bool _) = some (Value.bool _)
        unfold hugeB
        first | (simp [*]; done) | (simp [*]; omega)
    · intro h11
      (try simp only [Bool.not_eq_true', Bool.not_eq_false', decide_eq_true_eq, decide_eq_false_iff_not] at h11)
      refine JL.pass rfl rfl rfl rfl ?_
      refine JL.pass rfl rfl rfl rfl ?_
      refine JL.pass rfl rfl rfl rfl ?_
      refine JL.pure rfl rfl ?_
      refine JL.pure rfl rfl ?_
      refine JL.pass rfl rfl rfl rfl ?_
      refine JL.pass rfl rfl rfl rfl ?_
      refine JL.pass rfl rfl rfl rfl ?_
      refine JL.pure rfl rfl ?_
      refine JL.pure rfl rfl ?_
      refine JL.pass rfl rfl rfl rfl ?_
      refine JL.pass rfl rfl rfl rfl ?_
      refine JL.pass rfl rfl rfl rfl ?_
      refine JL.pure rfl rfl ?_
      refine JL.pure rfl rfl ?_
      refine JL.pass rfl rfl rfl rfl ?_
      refine JL.pass rfl rfl rfl rfl ?_
      refine JL.pass rfl rfl rfl rfl ?_
      refine JL.pass rfl rfl rfl rfl ?_
      refine JL.pass rfl rfl rfl rfl ?_
      refine JL.pass rfl rfl rfl rfl ?_
      refine JL.pass rfl rfl rfl rfl ?_
      refine JL.pure rfl rfl ?_
      refine JL.pure rfl rfl ?_
      refine JL.want rfl rfl ?_
      refine JL.fieldAddr rfl Try.underlying52 rfl sh50 rfl ?_
      refine JL.want rfl rfl ?_
      refine JL.loadB 0 H rfl sh50 rfl rfl rfl ?_
      refine JL.want rfl rfl ?_
      refine JL.len rfl Try.underlying50 rfl ?_
      refine JL.want rfl rfl ?_
      refine JL.pure rfl rfl ?_
      refine JL.pure rfl rfl ?_
      refine JL.nil ?_
      refine Ex.to ⟨rfl, ?_, trivial⟩ (H.drop 0)
      show some (Value.bool _) = some (Value.bool _)
      unfold hugeB
      first | (simp [*]; done) | (simp [*]; omega)
  · intro wc H
    ((repeat refine Ex.normal_block ?_); refine Ex.next ?_)
    ((repeat refine JC.seq ?_); refine JC.cond rfl ?_ ?_)
    · intro h40
      (try simp only [Bool.not_eq_true', Bool.not_eq_false', decide_eq_true_eq, decide_eq_false_iff_not] at h40)
      ((repeat refine JC.seq ?_); refine JC.region ?_)
      refine JL.pure rfl rfl ?_
      refine JL.nil ?_
      ((repeat refine Ex.normal_block ?_); refine Ex.next ?_)
      ((repeat refine JC.seq ?_); refine JC.ret ?_)
      (repeat (first | refine Ex.ret_then ?_ | refine Ex.ret_block ?_))
      refine Ex.ret1 rfl (.tmp rfl) ⟨?_, H.below⟩
      unfold greatB
      rw [h40]; rfl
    · intro h40
      (try simp only [Bool.not_eq_true', Bool.not_eq_false', decide_eq_true_eq, decide_eq_false_iff_not] at h40)
      ((repeat refine JC.seq ?_); refine JC.skip ?_)
      ((repeat refine Ex.normal_block ?_); refine Ex.next ?_)
      ((repeat refine JC.seq ?_); refine JC.region ?_)
      refine JL.pure rfl rfl ?_
      refine JL.nil ?_
      ((repeat refine Ex.normal_block ?_); refine Ex.next ?_)
      ((repeat refine JC.seq ?_); refine JC.block ?_)
      ((repeat refine JC.seq ?_); refine JC.loop (ι := Nat) (fun k => [(2, .slice sa l.length sc), (7, .int .i64 k)])
        (fun k wr => k ≤ l.length ∧ (∀ (i : Nat) (h : i < l.length), i < k → l[i].2.length ≤ 300) ∧ Own w wr []) (fun k => l.length - k) 0 ?_ ?_ ?_)
      · exact ⟨rfl, rfl, trivial⟩
      · exact ⟨Nat.zero_le _, fun i _ hi => by omega, H⟩
      · rintro k wr ⟨hk, hno, H⟩
        ((repeat refine JC.seq ?_); refine JC.region ?_)
        refine JL.pure rfl rfl ?_
        refine JL.pure rfl rfl ?_
        refine JL.len rfl Try.underlying134 rfl ?_
        refine JL.pure rfl rfl ?_
        refine JL.nil ?_
        ((repeat refine Ex.normal_block ?_); refine Ex.next ?_)
        ((repeat refine JC.seq ?_); refine JC.cond rfl ?_ ?_)
        · intro h44
          (try simp only [Bool.not_eq_true', Bool.not_eq_false', decide_eq_true_eq, decide_eq_false_iff_not] at h44)
          have h44 : k < l.length := by omega
          have hx : l[k]? = some l[k] := by simp [h44]
          obtain ⟨xa, xc, hxv⟩ := (hr _ (List.getElem_mem h44)).len
          obtain ⟨_, _, _, he1, hs'⟩ := id hs
          cases he1
          obtain ⟨β, off, hsa, hβ, hc⟩ := hs'.resolve_left (by rintro rfl; simp at h44)
          ((repeat refine JC.seq ?_); refine JC.skip ?_)
          ((repeat refine Ex.normal_block ?_); refine Ex.next ?_)
          ((repeat refine JC.seq ?_); refine JC.block ?_)
          ((repeat refine JC.seq ?_); refine JC.region ?_)
          refine JL.pure rfl rfl ?_
          refine JL.pure rfl rfl ?_
          refine JL.indexS k (congrArg (fun z => some (Value.slice z l.length sc)) hsa) rfl Try.underlying134 sh50 rfl h44 rfl ?_
          refine JL.load rfl sh50 (by have := (hc k _ hx).grow hβ H.below; rw [hxv] at this; exact this) rfl ?_
          refine JL.len rfl Try.underlying50 rfl ?_
          refine JL.pure rfl rfl ?_
          refine JL.nil ?_
          ((repeat refine Ex.normal_block ?_); refine Ex.next ?_)
          ((repeat refine JC.seq ?_); refine JC.cond rfl ?_ ?_)
          · intro h52
            (try simp only [Bool.not_eq_true', Bool.not_eq_false', decide_eq_true_eq, decide_eq_false_iff_not] at h52)
            ((repeat refine JC.seq ?_); refine JC.region ?_)
            refine JL.pure rfl rfl ?_
            refine JL.nil ?_
            ((repeat refine Ex.normal_block ?_); refine Ex.next ?_)
            ((repeat refine JC.seq ?_); refine JC.ret ?_)
            (repeat (first | refine Ex.ret_then ?_ | refine Ex.ret_block ?_))
            refine Ex.ret1 rfl (.tmp rfl) ⟨?_, H.below⟩
            unfold greatB
            rw [h40, Bool.false_or, List.any_map, List.any_eq_true.2]
            exact ⟨_, List.getElem_mem h44, by simp only [Function.comp_apply, decide_eq_true_eq]; omega⟩
          · intro h52
            (try simp only [Bool.not_eq_true', Bool.not_eq_false', decide_eq_true_eq, decide_eq_false_iff_not] at h52)
            ((repeat refine JC.seq ?_); refine JC.skip ?_)
            ((repeat refine Ex.normal_block ?_); refine Ex.next ?_)
            ((repeat refine JC.seq ?_); refine JC.region ?_)
            refine JL.pure rfl rfl ?_
            refine JL.arith rfl (by unfold In64; omega) rfl ?_
            refine JL.pure rfl rfl ?_
            refine JL.nil ?_
            (repeat refine Ex.normal_block ?_)
            refine Ex.again (k + 1) ⟨rfl, rfl, trivial⟩ ⟨h44, fun i h hi => ?_, H⟩ (by omega)
            by_cases hik : i = k
            · subst hik; omega
            · exact hno i h (by omega)
        · intro h44
          (try simp only [Bool.not_eq_true', Bool.not_eq_false', decide_eq_true_eq, decide_eq_false_iff_not] at h44)
          
          ((repeat refine JC.seq ?_); refine JC.exit ?_)
          (repeat (first | refine Ex.exit_then ?_ | refine Ex.exit_miss (by decide) ?_))
          refine Ex.exit_hit ?_
          ((repeat refine Ex.normal_block ?_); refine Ex.next ?_)
          ((repeat refine JC.seq ?_); refine JC.region ?_)
          refine JL.pure rfl rfl ?_
          refine JL.nil ?_
          ((repeat refine Ex.normal_block ?_); refine Ex.next ?_)
          ((repeat refine JC.seq ?_); refine JC.ret ?_)
          (repeat (first | refine Ex.ret_then ?_ | refine Ex.ret_block ?_))
          refine Ex.ret1 rfl (.tmp rfl) ⟨?_, H.below⟩
          unfold greatB
          have : (l.map Prod.snd).any (fun r => decide (300 < r.length)) = false := by
            rw [List.any_map, List.any_eq_false]
            intro x hx
            obtain ⟨i, hi, rfl⟩ := List.getElem_of_mem hx
            have := hno i hi (by omega)
            simp only [Function.comp_apply, decide_eq_true_eq]
            omega
          rw [h40, this]; rfl
theorem alive_c (w : World) : Pur Try.prog 40 #[] w (.bool true) := by
  refine pur_J (args := []) Try.func40 rfl Try.ntmps40 rfl ?_
  have H := Own.start w
  ((repeat refine JC.seq ?_); refine JC.region ?_)
  refine JL.pure rfl rfl ?_
  refine JL.nil ?_
  ((repeat refine Ex.normal_block ?_); refine Ex.next ?_)
  ((repeat refine JC.seq ?_); refine JC.region ?_)
  refine JL.call fb106 rfl rfl (little_c _) ?_
  rintro _ w1 ⟨lv, rfl, K⟩
  have H := H.join K
  have hcl := H.rowCap (j := 0) rfl
  obtain ⟨la, lc, rfl⟩ := H.row_slice (j := 0) rfl
  refine ⟨_, rfl, ?_⟩
  refine JL.alloc H z52 rfl ?_
  intro b1 w2 H
  refine JL.storeB 0 H rfl rfl sh52 rfl rfl rfl rfl rfl ?_
  intro w3 H
  refine JL.nil ?_
  ((repeat refine Ex.normal_block ?_); refine Ex.next ?_)
  ((repeat refine JC.seq ?_); refine JC.region ?_)
  refine JL.loadB 0 H rfl sh52 rfl rfl rfl ?_
  refine JL.build s23 rfl rfl ?_
  refine JL.callP H fb52 rfl rfl (cellOf_c littleG _ ⟨39, 29⟩ _ (runSl H (j := 1) rfl (by decide))) ?_
  intro w4 H _
  refine JL.pure rfl rfl ?_
  refine JL.pure rfl rfl ?_
  refine JL.pure rfl rfl ?_
  refine JL.alloc H z62 rfl ?_
  intro b2 w5 H
  refine JL.storeB 0 H rfl rfl sh62 rfl rfl rfl rfl rfl ?_
  intro w6 H
  refine JL.pure rfl rfl ?_
  refine JL.nil ?_
  ((repeat refine Ex.normal_block ?_); refine Ex.next ?_)
  ((repeat refine JC.seq ?_); refine JC.region ?_)
  refine JL.loadB 1 H rfl sh52 rfl rfl rfl ?_
  refine JL.call fb98 rfl rfl (sea_c littleG _ _ (runSl H (j := 2) rfl (by decide)) hcl) ?_
  rintro _ w7 ⟨sv, rfl, K⟩
  have H := H.join K
  refine ⟨_, rfl, ?_⟩
  refine JL.pure rfl rfl ?_
  refine JL.pure rfl rfl ?_
  refine JL.pure rfl rfl ?_
  refine JL.pure rfl rfl ?_
  refine JL.pure rfl rfl ?_
  refine JL.nil ?_
  ((repeat refine Ex.normal_block ?_); refine Ex.next ?_)
  ((repeat refine JC.seq ?_); refine JC.drawS H mixed ?_)
  intro w8 H
  refine DR.any 0 5 H (by kernel_rfl) ?_
  refine JD.loadB 2 rfl sh52 rfl rfl rfl ?_
  refine JD.callN (fun v => runRow v (oneR 3 2)) fb45 rfl rfl (fun w1 hw => one_c 3 2 w1) ?_
  refine JD.build s23 rfl rfl ?_
  refine JD.build s23 rfl rfl ?_
  refine JD.build s54 rfl rfl ?_
  refine JD.nil ?_
  intro w9 v24 H
  simp only [Option.isSome_none, Option.isSome_some, cond_false, cond_true] at H
  show DR _ _ _ _ _ _ _
  refine DR.op rfl (by kernel_rfl) ?_
  refine JL.call fb43 rfl rfl (grow_c littleG _ v24 (oneR 3 2) ⟨⟨-10, 1⟩, ⟨-10, 1⟩⟩ _ (runSl H (j := 4) rfl (by decide)) (runSl H (j := 0) rfl (by decide))) ?_
  rintro _ w10 ⟨gv, rfl, K⟩
  have H := H.join K
  refine ⟨_, rfl, ?_⟩
  refine DR.next ?_
  refine DR.any 6 13 H (by kernel_rfl) ?_
  refine JD.pure rfl rfl ?_
  refine JD.pure rfl rfl ?_
  refine JD.pure rfl rfl ?_
  refine JD.pure rfl rfl ?_
  refine JD.pure rfl rfl ?_
  refine JD.pure rfl rfl ?_
  refine JD.pure rfl rfl ?_
  refine JD.nil ?_
  intro w11 H
  show DR _ _ _ _ _ _ _
  refine DR.done rfl ?_
  ((repeat refine Ex.normal_block ?_); refine Ex.next ?_)
  ((repeat refine JC.seq ?_); refine JC.region ?_)
  refine JL.pure rfl rfl ?_
  refine JL.build s140 rfl rfl ?_
  refine JL.build s140 rfl rfl ?_
  refine JL.build s140 rfl rfl ?_
  refine JL.buildSlice H Try.underlying50 sh140 z140 rfl rfl rfl rfl rfl ?_
  intro b36 w12 H
  refine JL.callP H fb67 rfl rfl (same_c _ _ _ [⟨0, 2, 4⟩, ⟨1, 0, 4⟩, ⟨2, 0, 4⟩] _ (runSl H (j := 3) rfl (by decide)) (H.blkSl (j := 0) (enc := Run.cs) rfl [⟨0, 2, 4⟩, ⟨1, 0, 4⟩, ⟨2, 0, 4⟩] rfl (fun _ => rfl) (by decide))) ?_
  intro w13 H _
  refine JL.pure rfl rfl ?_
  refine JL.nil ?_
  ((repeat refine Ex.normal_block ?_); refine Ex.next ?_)
  ((repeat refine JC.seq ?_); refine JC.region ?_)
  refine JL.pure rfl rfl ?_
  refine JL.pure rfl rfl ?_
  refine JL.re 39 rfl (v' := .bool true) (by kernel_rfl) ?_
  refine JL.pure rfl rfl ?_
  refine JL.want rfl rfl ?_
  refine JL.loadB 4 H rfl sh62 rfl rfl rfl ?_
  refine JL.want rfl rfl ?_
  refine JL.build s62 rfl rfl ?_
  refine JL.want rfl rfl ?_
  refine JL.eqs rfl rfl (eqTwo (by decide) _ _ _ _).1 rfl ?_
  refine JL.re 43 rfl (v' := .bool true) (by kernel_rfl) ?_
  refine JL.pure rfl rfl ?_
  refine JL.pure rfl rfl ?_
  refine JL.want rfl rfl ?_
  refine JL.pure rfl rfl ?_
  refine JL.want rfl rfl ?_
  refine JL.pure rfl rfl ?_
  refine JL.re 47 rfl (v' := .bool true) (by kernel_rfl) ?_
  refine JL.pure rfl rfl ?_
  refine JL.pure rfl rfl ?_
  refine JL.want rfl rfl ?_
  refine JL.pure rfl rfl ?_
  refine JL.re 50 rfl (v' := .bool true) (by kernel_rfl) ?_
  refine JL.pure rfl rfl ?_
  refine JL.pure rfl rfl ?_
  refine JL.want rfl rfl ?_
  refine JL.pure rfl rfl ?_
  refine JL.want rfl rfl ?_
  refine JL.pure rfl rfl ?_
  refine JL.re 54 rfl (v' := .bool true) (by kernel_rfl) ?_
  refine JL.pure rfl rfl ?_
  refine JL.pure rfl rfl ?_
  refine JL.want rfl rfl ?_
  refine JL.pure rfl rfl ?_
  refine JL.re 57 rfl (v' := .bool true) (by kernel_rfl) ?_
  refine JL.pure rfl rfl ?_
  refine JL.pure rfl rfl ?_
  refine JL.want rfl rfl ?_
  refine JL.pure rfl rfl ?_
  refine JL.want rfl rfl ?_
  refine JL.call fb45 rfl rfl (one_c 2 2 _) ?_
  rintro _ w14 ⟨v61, rfl, K⟩
  have H := H.join K
  refine ⟨_, rfl, ?_⟩
  refine JL.want rfl rfl ?_
  refine JL.callP H fb67 rfl rfl (same_c _ _ _ (oneR 2 2) _ (runSl H (j := 2) rfl (by decide)) (runSl H (j := 0) rfl (by decide))) ?_
  intro w15 H _
  refine JL.pure rfl rfl ?_
  refine JL.re 63 rfl (v' := .bool true) (by kernel_rfl) ?_
  refine JL.pure rfl rfl ?_
  refine JL.nil ?_
  ((repeat refine Ex.normal_block ?_); refine Ex.next ?_)
  ((repeat refine JC.seq ?_); refine JC.ret ?_)
  (repeat (first | refine Ex.ret_then ?_ | refine Ex.ret_block ?_))
  refine Ex.ret1 rfl (.tmp rfl) ⟨rfl, H.below⟩
end Go.J
