/-
  Lemmas for the statements of this seat; no statement is proved here. No condition.
-/
import Derived.Test.YtfbmgmdjaoackaaJTab
namespace Go.J
open Go.RowKit Go.Proofs
set_option maxRecDepth 8000
set_option linter.unusedSimpArgs false
set_option linter.unusedVariables false
theorem ap306 : tyApp Try.prog 306 = some (2, 16) := by kernel_rfl
theorem ap140 : tyApp Try.prog 140 = some (3, 24) := by kernel_rfl
theorem add_c {w0 w : World} {L : List HP} {β : Nat} {T : Tab} (H : Own w0 w (tbl β T :: L)) (W H0 S : Int) (lv : Value) (y a b : Int) (hH : 1 ≤ H0 ∧ H0 ≤ 256) (hW : W ≤ 256)
    (hT : ∀ l ∈ T, l.length ≤ 1000000000) :
    Calls Try.prog 134 #[.pointer (some ⟨β, 0, none⟩), .agg #[.int .i64 W, .int .i64 H0, .int .i64 S, lv], .int .i64 y, .int .i64 a, .int .i64 b] w
      (fun e w' => e = .returned (.tuple #[]) ∧ Own w0 w' (tbl β (T.add W H0 y a b) :: L)) := by
  refine calls_J (args := [.pointer (some ⟨β, 0, none⟩), .agg #[.int .i64 W, .int .i64 H0, .int .i64 S, lv], .int .i64 y, .int .i64 a, .int .i64 b]) Try.func134 rfl Try.ntmps134 rfl ?_
  ((repeat refine JC.seq ?_); refine JC.region ?_)
  refine JL.box H rfl rfl rfl ?_
  intro b6 w1 H
  refine JL.nil ?_
  ((repeat refine Ex.normal_block ?_); refine Ex.next ?_)
  ((repeat refine JC.seq ?_); refine JC.draw 8 H mixed (by kernel_rfl) rfl ?_)
  refine JD.pure rfl rfl ?_
  refine JD.pure rfl rfl ?_
  refine JD.pure rfl rfl ?_
  refine JD.fieldAddr rfl Try.underlying52 rfl sh3 rfl ?_
  refine JD.loadB 0 rfl sh3 rfl rfl rfl ?_
  refine JD.pure rfl rfl ?_
  refine JD.pure rfl rfl ?_
  refine JD.pure rfl rfl ?_
  refine JD.nil ?_
  intro w2 H
  show JL _ _ _ _ _ _ _
  refine JL.nil ?_
  ((repeat refine Ex.normal_block ?_); refine Ex.next ?_)
  ((repeat refine JC.seq ?_); refine JC.region ?_)
  refine JL.pure rfl rfl ?_
  refine JL.fieldAddr rfl Try.underlying52 rfl sh3 rfl ?_
  refine JL.loadB 0 H rfl sh3 rfl rfl rfl ?_
  refine JL.arith rfl (by unfold In64; omega) rfl ?_
  refine JL.callP H fb144 rfl rfl (within_c _ _ _ _) ?_
  intro w3 H _
  refine JL.pure rfl rfl ?_
  refine JL.cases 21 rfl ?_ ?_
  · intro h21
    (try simp only [Bool.not_eq_true', Bool.not_eq_false', decide_eq_true_eq, decide_eq_false_iff_not] at h21)
    refine JL.want rfl rfl ?_
    refine JL.pure rfl rfl ?_
    refine JL.want rfl rfl ?_
    refine JL.pure rfl rfl ?_
    refine JL.want rfl rfl ?_
    refine JL.pure rfl rfl ?_
    refine JL.pure rfl rfl ?_
    refine JL.nil ?_
    ((repeat refine Ex.normal_block ?_); refine Ex.next ?_)
    ((repeat refine JC.seq ?_); refine JC.cond rfl ?_ ?_)
    · intro h25
      (try simp only [Bool.not_eq_true', Bool.not_eq_false', decide_eq_true_eq, decide_eq_false_iff_not] at h25)
      have hy : (0 ≤ y ∧ y ≤ H0 - 1) ∧ max 0 a < min b W := ⟨by simpa using h21, by simpa using h25⟩
      have H := H.front 1 rfl
      obtain ⟨vs, hvs, hTl, H⟩ := H.openT
      have hyT : y.toNat < T.length := by omega
      have hyv : y.toNat < vs.length := by omega
      have hv : vs[y.toNat]? = some vs[y.toNat] := by simp [hyv]
      have hx : T[y.toNat]? = some T[y.toNat] := by simp [hyT]
      have hrow : (rowsL vs T)[y.toNat]? = some (spRow vs[y.toNat] T[y.toNat]) := rowsL_get hv hx
      have hrl := rowsL_len hvs hTl
      obtain ⟨Lx, hLx⟩ : ∃ Lx, Lx = blk β (.cells ⟨vs⟩ 195 (0, 0)) :: (rowsL vs T ++ (blk b6 (.cells ⟨[.int .i64 W, .int .i64 H0, .int .i64 S, lv]⟩ 52 (0, 0)) :: L)) := ⟨_, rfl⟩
      have H := Own.cast (L := Lx) H hLx
      have hL0 : Lx[0]? = some (blk β (.cells ⟨vs⟩ 195 (0, 0))) := by rw [hLx]; rfl
      have hL1 : Lx[1 + y.toNat]? = some (spRow vs[y.toNat] T[y.toNat]) := by rw [hLx]; exact (get_one (by omega)).trans hrow
      ((repeat refine JC.seq ?_); refine JC.drawE 13 [11] (fun p => bif Nat.beq p 0 then Lx else Lx.eraseIdx (1 + y.toNat)) H rfl mixed (by kernel_rfl) rfl ?_)
      refine JD.pure rfl rfl ?_
      refine JD.pure rfl rfl ?_
      refine JD.pure rfl rfl ?_
      refine JD.pure rfl rfl ?_
      refine JD.nilCheck rfl rfl ?_
      refine JD.indexA y.toNat rfl rfl Try.underlying195 sh193 (by omega) (by omega) rfl ?_
      refine JD.load rfl sh193 (fun w hw => by simpa using LdAt.one (Own.get (i := 0) hw hL0).2 hv) rfl ?_
      refine JD.pure rfl rfl ?_
      refine JD.pure rfl rfl ?_
      refine JD.build s306 rfl rfl ?_
      refine JD.buildSlice Try.underlying193 sh306 z306 rfl rfl rfl rfl rfl ?_
      refine JD.append (m := 1) (news := [.int .i64 (max 0 a), .int .i64 (min b W)]) (1 + y.toNat) Try.underlying193 ap306 hL1 rfl rfl rfl rfl rfl rfl (by
        have := hT _ (List.getElem_mem hyT)
        omega) (by
        have := hT _ (List.getElem_mem hyT)
        omega) rfl ?_
      refine JD.nilCheck rfl rfl ?_
      refine JD.nil ?_
      intro w4 v37 v36 H
      obtain ⟨b36, rfl, H⟩ := H.slc (j := 0) rfl
      simp only [Option.isSome_none, Option.isSome_some, cond_false, cond_true] at H
      have H := Own.unfront hL1 (H.drop 0)
      rw [hLx, set_one (by omega)] at H
      obtain ⟨a', c', rfl⟩ := H.row_slice (j := 1 + y.toNat) ((get_one (by simp; omega)).trans (List.getElem?_set_self (by omega)))
      have hnew : row 306 2 (.slice a' (T[y.toNat].length + 1) c') (T[y.toNat].length + 1) (spCells T[y.toNat] ++ [.int .i64 (max 0 a), .int .i64 (min b W)]) = spRow (.slice a' (T[y.toNat].length + 1) c') (T[y.toNat] ++ [⟨max 0 a, min b W⟩]) := by
        unfold spRow; simp [spCells, Span.cs]
      rw [hnew, rowsL_set] at H
      show JL _ _ _ _ _ _ _
      refine JL.indexA y.toNat rfl rfl Try.underlying195 sh193 (by omega) (by omega) rfl ?_
      refine JL.storeB 0 H rfl rfl sh193 rfl rfl rfl (by simpa [cellsL] using setK_one hyv) rfl ?_
      intro w9 H
      have H := H.closeT (by simp [hvs]) (by simp [hTl])
      refine JL.nil ?_
      ((repeat refine Ex.normal_block ?_); refine Ex.end_ ?_)
      refine Ex.ret0 rfl ⟨rfl, ?_⟩
      unfold Tab.add
      rw [if_pos hy, show T.getD y.toNat [] = T[y.toNat] by simp [List.getD, hx]]
      exact H.drop 1
    · intro h25
      (try simp only [Bool.not_eq_true', Bool.not_eq_false', decide_eq_true_eq, decide_eq_false_iff_not] at h25)
      
      ((repeat refine JC.seq ?_); refine JC.skip ?_)
      ((repeat refine Ex.normal_block ?_); refine Ex.end_ ?_)
      refine Ex.ret0 rfl ⟨rfl, ?_⟩
      unfold Tab.add
      rw [if_neg (by simp at *; omega)]
      exact H.drop 0
  · intro h21
    (try simp only [Bool.not_eq_true', Bool.not_eq_false', decide_eq_true_eq, decide_eq_false_iff_not] at h21)
    refine JL.pass rfl rfl rfl rfl ?_
    refine JL.pass rfl rfl rfl rfl ?_
    refine JL.pass rfl rfl rfl rfl ?_
    refine JL.pure rfl rfl ?_
    refine JL.nil ?_
    ((repeat refine Ex.normal_block ?_); refine Ex.next ?_)
    ((repeat refine JC.seq ?_); refine JC.cond rfl (fun h => by cases h) (fun _ => ?_))
    ((repeat refine JC.seq ?_); refine JC.skip ?_)
    ((repeat refine Ex.normal_block ?_); refine Ex.end_ ?_)
    refine Ex.ret0 rfl ⟨rfl, ?_⟩
    unfold Tab.add
    rw [if_neg (by simp at *; omega)]
    exact H.drop 0
end Go.J
