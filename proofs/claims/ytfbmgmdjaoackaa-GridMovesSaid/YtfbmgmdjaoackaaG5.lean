/-
  Lemmas for the statements of this seat; no statement is proved here. No condition.
-/
import Derived.Test.YtfbmgmdjaoackaaJSort
import Derived.Test.YtfbmgmdjaoackaaG4
namespace Go.J
open Go.RowKit Go.Proofs
set_option maxRecDepth 8000
set_option linter.unusedSimpArgs false
set_option linter.unusedVariables false
theorem ins_nil (f : Value) (w : World) : Pur Try.prog 310 #[.slice none 0 0, .int .i64 0, .int .i64 0, f] w (.tuple #[]) := by
  refine pur_J (args := [.slice none 0 0, .int .i64 0, .int .i64 0, f]) Try.func310 rfl Try.ntmps310 rfl ?_
  have H := Own.start w
  ((repeat refine JC.seq ?_); refine JC.region ?_)
  refine JL.pure rfl rfl ?_
  refine JL.arith rfl (by unfold In64; omega) rfl ?_
  refine JL.pure rfl rfl ?_
  refine JL.nil ?_
  ((repeat refine Ex.normal_block ?_); refine Ex.next ?_)
  ((repeat refine JC.seq ?_); refine JC.block ?_)
  ((repeat refine JC.seq ?_); refine JC.loop (ι := Unit) (fun _ => [(0, .slice none 0 0), (1, .int .i64 0), (2, .int .i64 0), (8, .int .i64 1)])
    (fun _ wr => Own w wr [])
    (fun _ => 0) () ?_ ?_ ?_)
  · exact ⟨rfl, rfl, rfl, rfl, trivial⟩
  · exact H
  · rintro _ wr H
    ((repeat refine JC.seq ?_); refine JC.region ?_)
    refine JL.pure rfl rfl ?_
    refine JL.pure rfl rfl ?_
    refine JL.pure (v := .bool false) rfl rfl ?_
    refine JL.nil ?_
    ((repeat refine Ex.normal_block ?_); refine Ex.next ?_)
    ((repeat refine JC.seq ?_); refine JC.cond rfl (fun h => by cases h) (fun _ => ?_))
    ((repeat refine JC.seq ?_); refine JC.exit ?_)
    (repeat (first | refine Ex.exit_then ?_ | refine Ex.exit_miss (by decide) ?_))
    refine Ex.exit_hit ?_
    ((repeat refine Ex.normal_block ?_); refine Ex.end_ ?_)
    refine Ex.ret0 rfl ⟨rfl, H.below⟩
theorem len0 (w : World) : Pur Try.prog 284 #[.int .u64 0] w (.int .i64 0) :=
  (Any.bits_Len Try.lays125 0 w (by omega) (by omega)).mono fun _ _ ⟨he, hw⟩ => ⟨he, hw ▸ Below.refl _ _⟩
theorem pdq_nil (f n : Value) (w : World) : Pur Try.prog 293 #[.slice none 0 0, .int .i64 0, .int .i64 0, n, f] w (.tuple #[]) := by
  refine pur_J (args := [.slice none 0 0, .int .i64 0, .int .i64 0, n, f]) Try.func293 rfl Try.ntmps293 rfl ?_
  have H := Own.start w
  ((repeat refine JC.seq ?_); refine JC.region ?_)
  refine JL.pure rfl rfl ?_
  refine JL.nil ?_
  ((repeat refine Ex.normal_block ?_); refine Ex.next ?_)
  ((repeat refine JC.seq ?_); refine JC.region ?_)
  refine JL.pure rfl rfl ?_
  refine JL.nil ?_
  ((repeat refine Ex.normal_block ?_); refine Ex.next ?_)
  ((repeat refine JC.seq ?_); refine JC.block ?_)
  ((repeat refine JC.seq ?_); refine JC.loop (ι := Unit) (fun _ => [(0, .slice none 0 0), (1, .int .i64 0), (2, .int .i64 0), (4, f)])
    (fun _ wr => Own w wr [])
    (fun _ => 0) () ?_ ?_ ?_)
  · exact ⟨rfl, rfl, rfl, rfl, trivial⟩
  · exact H
  · rintro _ wr H
    ((repeat refine JC.seq ?_); refine JC.block ?_)
    ((repeat refine JC.seq ?_); refine JC.region ?_)
    refine JL.pure rfl rfl ?_
    refine JL.pure rfl rfl ?_
    refine JL.arith rfl (by unfold In64; omega) rfl ?_
    refine JL.pure rfl rfl ?_
    refine JL.nil ?_
    ((repeat refine Ex.normal_block ?_); refine Ex.next ?_)
    ((repeat refine JC.seq ?_); refine JC.region ?_)
    refine JL.pure rfl rfl ?_
    refine JL.pure (v := .bool true) rfl rfl ?_
    refine JL.nil ?_
    ((repeat refine Ex.normal_block ?_); refine Ex.next ?_)
    ((repeat refine JC.seq ?_); refine JC.cond rfl (fun _ => ?_) (fun h => by cases h))
    ((repeat refine JC.seq ?_); refine JC.region ?_)
    refine JL.pure rfl rfl ?_
    refine JL.pure rfl rfl ?_
    refine JL.pure rfl rfl ?_
    refine JL.pure rfl rfl ?_
    refine JL.callP H fb310 rfl rfl (ins_nil _ _) ?_
    intro w1 H _
    refine JL.nil ?_
    ((repeat refine Ex.normal_block ?_); refine Ex.next ?_)
    ((repeat refine JC.seq ?_); refine JC.ret ?_)
    (repeat (first | refine Ex.ret_then ?_ | refine Ex.ret_block ?_))
    refine Ex.ret0 rfl ⟨rfl, H.below⟩
theorem sort_nil (f : Value) (w : World) : Pur Try.prog 275 #[.slice none 0 0, f] w (.tuple #[]) := by
  refine pur_J (args := [.slice none 0 0, f]) Try.func275 rfl Try.ntmps275 rfl ?_
  have H := Own.start w
  ((repeat refine JC.seq ?_); refine JC.region ?_)
  refine JL.pure rfl rfl ?_
  refine JL.len rfl Try.underlying193 rfl ?_
  refine JL.pure rfl rfl ?_
  refine JL.nil ?_
  ((repeat refine Ex.normal_block ?_); refine Ex.next ?_)
  ((repeat refine JC.seq ?_); refine JC.region ?_)
  refine JL.pure rfl rfl ?_
  refine JL.pure rfl rfl ?_
  refine JL.pure rfl rfl ?_
  refine JL.conv rfl Try.underlying3 Try.underlying350 rfl ?_
  refine JL.callP H fb284 rfl rfl (len0 _) ?_
  intro w1 H _
  refine JL.pure rfl rfl ?_
  refine JL.callP H fb293 rfl rfl (pdq_nil _ _ _) ?_
  intro w2 H _
  refine JL.nil ?_
  ((repeat refine Ex.normal_block ?_); refine Ex.end_ ?_)
  refine Ex.ret0 rfl ⟨rfl, H.below⟩
theorem sort_c {w0 w : World} {L : List HP} (H : Own w0 w L) {j : Nat} {v : Value} {xs : List Span} (hj : L[j]? = some (spRow v xs)) (hx : ∀ s ∈ xs, -1152921504606846976 ≤ s.a ∧ s.a ≤ 1152921504606846976) (hn : xs.length ≤ 1000000000000) :
    Calls Try.prog 275 #[v, .func (.func 218) #[] #[]] w
      (fun e w' => e = .returned (.tuple #[]) ∧ ∃ ys : List Span, ys.Perm xs ∧ ys.Pairwise (fun a b => a.a ≤ b.a) ∧ Own w0 w' (L.set j (spRow v ys))) := by
  obtain ⟨hlen, hs⟩ := H.row_shape hj
  rcases hs with ⟨rfl, h⟩ | ⟨g', cap', cur, rfl, _⟩
  · have : xs = [] := List.eq_nil_of_length_eq_zero h
    subst this
    refine (sort_nil _ w).mono ?_
    rintro e w' ⟨rfl, hb⟩
    exact ⟨rfl, [], List.Perm.refl _, List.Pairwise.nil, (H.grow hb).upd hj (fun _ h => h)⟩
  · exact sort_some H hj hx hn
end Go.J
