/-
  Lemmas for the statements of this seat; no statement is proved here. No condition.
-/
import Derived.Test.YtfbmgmdjaoackaaPNorm
namespace Go.J
open Go.RowKit Go.Proofs
set_option maxRecDepth 8000
set_option linter.unusedSimpArgs false
set_option linter.unusedVariables false
def Run.cs (r : Run) : List Value := [.int .i64 r.Y, .int .i64 r.From, .int .i64 r.To]
def rowR (T : Tab) (j : Nat) : List Run := (norm (T.getD j [])).map fun s => ⟨j, s.a, s.b⟩
def outR (T : Tab) (y : Nat) : List Run := (List.range y).flatMap (rowR T)
/-- a table's region -/
def regR (T : Tab) : List Run := outR T 256
theorem outR_succ (T : Tab) (y : Nat) : outR T (y + 1) = outR T y ++ rowR T y := by simp [outR, List.range_succ]
theorem norm_len (l : List Span) : (norm l).length ≤ l.length := by
  have := merge_len (ssort l) []
  rw [(ssort_perm l).length_eq] at this
  simpa [norm, mergeL] using this
theorem outR_len {T : Tab} {b : Nat} (hT : ∀ l ∈ T, l.length ≤ b) : ∀ y, (outR T y).length ≤ y * b := by
  intro y
  induction y with
  | zero => simp [outR]
  | succ y ih =>
    rw [outR_succ, List.length_append, Nat.add_mul, Nat.one_mul]
    have : (rowR T y).length ≤ b := by
      unfold rowR
      rw [List.length_map]
      refine Nat.le_trans (norm_len _) ?_
      rcases Nat.lt_or_ge y T.length with h | h
      · rw [show T.getD y [] = T[y] by simp [List.getD, h]]
        exact hT _ (List.getElem_mem h)
      · rw [show T.getD y [] = [] by simp [List.getD, h]]
        simp
    omega
def runRow (v : Value) (l : List Run) : HP := trow 140 3 Run.cs v l
theorem region_c {w0 w : World} {L : List HP} {β : Nat} {T : Tab} (H : Own w0 w (tbl β T :: L)) (hT : ∀ l ∈ T, l.length ≤ 1000000000)
    (hne : ∀ l ∈ T, ∀ s ∈ l, s.a < s.b ∧ 0 ≤ s.a ∧ s.a ≤ 1000000) :
    Calls Try.prog 131 #[.pointer (some ⟨β, 0, none⟩)] w
      (fun e w' => ((regR T).length > 8192 ∧ e = .returned (.tuple #[.slice none 0 0, .int .i64 3]) ∧ Own w0 w' L) ∨
        ((regR T).length ≤ 8192 ∧ ∃ rv, e = .returned (.tuple #[rv, .int .i64 0]) ∧ Own w0 w' (runRow rv (regR T) :: L))) := by
  refine calls_J (args := [.pointer (some ⟨β, 0, none⟩)]) Try.func131 rfl Try.ntmps131 rfl ?_
  obtain ⟨vs, hvs, hTl, H⟩ := H.openT
  ((repeat refine JC.seq ?_); refine JC.region ?_)
  refine JL.pure rfl rfl ?_
  refine JL.pure rfl rfl ?_
  refine JL.nil ?_
  ((repeat refine Ex.normal_block ?_); refine Ex.next ?_)
  ((repeat refine JC.seq ?_); refine JC.region ?_)
  refine JL.pure rfl rfl ?_
  refine JL.nil ?_
  ((repeat refine Ex.normal_block ?_); refine Ex.next ?_)
  ((repeat refine JC.seq ?_); refine JC.region ?_)
  refine JL.pure rfl rfl ?_
  refine JL.nilCheck rfl rfl ?_
  refine JL.pure rfl rfl ?_
  refine JL.nil ?_
  ((repeat refine Ex.normal_block ?_); refine Ex.next ?_)
  ((repeat refine JC.seq ?_); refine JC.block ?_)
  ((repeat refine JC.seq ?_); refine JC.loop (ι := Nat × Value × Tab) (fun x => [(9, .pointer (some ⟨β, 0, none⟩)), (11, .int .i64 x.1), (4, x.2.1)])
    (fun x wr => x.1 ≤ 256 ∧ x.2.2.length = 256 ∧ (∀ j, x.1 ≤ j → x.2.2[j]? = T[j]?) ∧ Own w0 wr (runRow x.2.1 (outR T x.1) :: blk β (.cells ⟨vs⟩ 195 (0, 0)) :: (rowsL vs x.2.2 ++ L)))
    (fun x => 256 - x.1) (0, .slice none 0 0, T) ?_ ?_ ?_)
  · exact ⟨rfl, rfl, rfl, trivial⟩
  · exact ⟨Nat.zero_le _, hTl, fun _ _ => rfl, H.nilRow 140 3⟩
  · rintro ⟨y, ov, T'⟩ wr ⟨hy, hT'l, hTT, H⟩
    simp only at hy hT'l hTT H
    have hol := outR_len hT y
    ((repeat refine JC.seq ?_); refine JC.region ?_)
    refine JL.pure rfl rfl ?_
    refine JL.nil ?_
    ((repeat refine Ex.normal_block ?_); refine Ex.next ?_)
    ((repeat refine JC.seq ?_); refine JC.cond rfl ?_ ?_)
    · intro h12
      (try simp only [Bool.not_eq_true', Bool.not_eq_false', decide_eq_true_eq, decide_eq_false_iff_not] at h12)
      have h12 : y < 256 := by omega
      have hv : vs[y]? = some vs[y] := by simp [hvs, h12]
      have hxT : T'[y]? = some T'[y] := by simp [hT'l, h12]
      have hTy : T[y]? = some T'[y] := by rw [← hTT y (Nat.le_refl _)]; exact hxT
      have hmem : T'[y] ∈ T := List.mem_of_getElem? hTy
      have hrow : (rowsL vs T')[y]? = some (spRow vs[y] T'[y]) := rowsL_get hv hxT
      have hrl := rowsL_len hvs hT'l
      ((repeat refine JC.seq ?_); refine JC.skip ?_)
      ((repeat refine Ex.normal_block ?_); refine Ex.next ?_)
      ((repeat refine JC.seq ?_); refine JC.block ?_)
      ((repeat refine JC.seq ?_); refine JC.draw 6 H mixed (by kernel_rfl) rfl ?_)
      refine JD.pure rfl rfl ?_
      refine JD.nilCheck rfl rfl ?_
      refine JD.indexA y rfl rfl Try.underlying195 sh193 (by omega) h12 rfl ?_
      refine JD.load rfl sh193 (fun w hw => by simpa using LdAt.one (Own.get (i := 1) hw rfl).2 hv) rfl ?_
      refine JD.pure rfl rfl ?_
      refine JD.pure rfl rfl ?_
      refine JD.nil ?_
      intro w1 H
      show JL _ _ _ _ _ _ _
      refine JL.nil ?_
      ((repeat refine Ex.normal_block ?_); refine Ex.next ?_)
      ((repeat refine JC.seq ?_); refine JC.region ?_)
      refine JL.pure rfl rfl ?_
      refine JL.call fb217 rfl rfl (merged_c H (j := 2 + y) ((get_two (by omega)).trans hrow) (fun s hs => by have := (hne _ hmem s hs).2; omega) (by have := hT _ hmem; omega)) ?_
      rintro _ w2 ⟨mv, ys, rfl, hperm, hsort, H⟩
      refine ⟨_, rfl, ?_⟩
      rw [set_two (by omega), rowsL_set, List.set_getElem_self] at H
      have hml : (mergeL ys).map (fun s : Span => (⟨y, s.a, s.b⟩ : Run)) = rowR T y := by
        rw [merge_norm hperm hsort (fun s hs => (hne _ hmem s hs).1)]
        unfold rowR
        rw [show T.getD y [] = T'[y] by simp [List.getD, hTy]]
      have hmll : (mergeL ys).length ≤ 1000000000 := by
        rw [merge_norm hperm hsort (fun s hs => (hne _ hmem s hs).1)]
        exact Nat.le_trans (norm_len _) (hT _ hmem)
      obtain ⟨ma, mc, rfl⟩ := H.row_slice (j := 0) rfl
      refine JL.pure rfl rfl ?_
      refine JL.nil ?_
      ((repeat refine Ex.normal_block ?_); refine Ex.next ?_)
      ((repeat refine JC.seq ?_); refine JC.region ?_)
      refine JL.pure rfl rfl ?_
      refine JL.len rfl Try.underlying193 rfl ?_
      refine JL.pure rfl rfl ?_
      refine JL.nil ?_
      ((repeat refine Ex.normal_block ?_); refine Ex.next ?_)
      ((repeat refine JC.seq ?_); refine JC.block ?_)
      ((repeat refine JC.seq ?_); refine JC.loop (ι := Nat × Value) (fun x => [(9, .pointer (some ⟨β, 0, none⟩)), (11, .int .i64 y), (5, .int .i64 y), (4, x.2), (19, .slice ma (mergeL ys).length mc), (20, .int .i64 (mergeL ys).length), (21, .int .i64 x.1)])
        (fun x wr => x.1 ≤ (mergeL ys).length ∧ Own w0 wr (spRow (.slice ma (mergeL ys).length mc) (mergeL ys) :: runRow x.2 (outR T y ++ ((mergeL ys).take x.1).map (fun s : Span => (⟨y, s.a, s.b⟩ : Run))) :: blk β (.cells ⟨vs⟩ 195 (0, 0)) :: (rowsL vs (T'.set y ys) ++ L)))
        (fun x => (mergeL ys).length - x.1) (0, ov) ?_ ?_ ?_)
      · exact ⟨rfl, rfl, rfl, rfl, rfl, rfl, rfl, trivial⟩
      · exact ⟨Nat.zero_le _, by simpa using H⟩
      · rintro ⟨k, ov2⟩ wr ⟨hk, H⟩
        simp only at hk H
        ((repeat refine JC.seq ?_); refine JC.region ?_)
        refine JL.pure rfl rfl ?_
        refine JL.nil ?_
        ((repeat refine Ex.normal_block ?_); refine Ex.next ?_)
        ((repeat refine JC.seq ?_); refine JC.cond rfl ?_ ?_)
        · intro h22
          (try simp only [Bool.not_eq_true', Bool.not_eq_false', decide_eq_true_eq, decide_eq_false_iff_not] at h22)
          have h22 : k < (mergeL ys).length := by omega
          have hxm : (mergeL ys)[k]? = some (mergeL ys)[k] := by simp [h22]
          obtain ⟨g, c, hg, _, _, _⟩ := H.rowAt (j := 0) (e := 306) (sz := 2) (enc := Span.cs) (fun _ => rfl) rfl hxm
          simp only [Value.slice.injEq] at hg
          obtain ⟨rfl, _, rfl⟩ := hg
          ((repeat refine JC.seq ?_); refine JC.skip ?_)
          ((repeat refine Ex.normal_block ?_); refine Ex.next ?_)
          ((repeat refine JC.seq ?_); refine JC.block ?_)
          ((repeat refine JC.seq ?_); refine JC.region ?_)
          refine JL.indexS k rfl rfl Try.underlying193 sh306 rfl h22 rfl ?_
          refine JL.load rfl sh306 (H.rowLd (j := 0) (e := 306) (sz := 2) (enc := Span.cs) (fun _ => rfl) rfl hxm) rfl ?_
          refine JL.alloc H z306 rfl ?_
          intro b8 w3 H
          refine JL.storeB 0 H rfl rfl sh306 rfl rfl rfl rfl rfl ?_
          intro w4 H
          refine JL.nil ?_
          ((repeat refine Ex.normal_block ?_); refine Ex.next ?_)
          ((repeat refine JC.seq ?_); refine JC.region ?_)
          refine JL.pure rfl rfl ?_
          refine JL.pure rfl rfl ?_
          refine JL.fieldAddr rfl Try.underlying306 rfl sh3 rfl ?_
          refine JL.loadB 0 H rfl sh3 rfl rfl rfl ?_
          refine JL.fieldAddr rfl Try.underlying306 rfl sh3 rfl ?_
          refine JL.loadB 0 H rfl sh3 rfl rfl rfl ?_
          refine JL.build s140 rfl rfl ?_
          refine JL.buildSlice H Try.underlying50 sh140 z140 rfl rfl rfl rfl rfl ?_
          intro b32 w5 H
          refine JL.append1 (news := [.int .i64 y, .int .i64 (mergeL ys)[k].a, .int .i64 (mergeL ys)[k].b]) 3 0 H Try.underlying50 ap140 rfl rfl rfl rfl rfl rfl (by
            simp only [List.length_append, List.length_map, List.length_take]; omega) (by
            simp only [List.length_append, List.length_map, List.length_take]; omega) rfl ?_
          intro ov3 w6 H
          replace H := H.cast (L := _ :: _ :: _ :: runRow ov3 (outR T y ++ ((mergeL ys).take k).map (fun s : Span => (⟨y, s.a, s.b⟩ : Run)) ++ [⟨y, (mergeL ys)[k].a, (mergeL ys)[k].b⟩]) :: _) (by
            unfold runRow
            rw [← trow_snoc]
            rfl)
          refine JL.pure rfl rfl ?_
          refine JL.nil ?_
          ((repeat refine Ex.normal_block ?_); refine Ex.next ?_)
          ((repeat refine JC.seq ?_); refine JC.region ?_)
          refine JL.arith rfl (by unfold In64; omega) rfl ?_
          refine JL.pure rfl rfl ?_
          refine JL.nil ?_
          (repeat refine Ex.normal_block ?_)
          have H := (H.drop 0).drop 0
          refine Ex.again (k + 1, ov3) ⟨rfl, rfl, rfl, rfl, rfl, rfl, rfl, trivial⟩ ⟨h22, ?_⟩ (by simp; omega)
          simp only
          rw [List.take_succ_eq_append_getElem h22, List.map_append, ← List.append_assoc]
          exact H
        · intro h22
          (try simp only [Bool.not_eq_true', Bool.not_eq_false', decide_eq_true_eq, decide_eq_false_iff_not] at h22)
          
          ((repeat refine JC.seq ?_); refine JC.exit ?_)
          (repeat (first | refine Ex.exit_then ?_ | refine Ex.exit_miss (by decide) ?_))
          refine Ex.exit_hit ?_
          ((repeat refine Ex.normal_block ?_); refine Ex.next ?_)
          ((repeat refine JC.seq ?_); refine JC.region ?_)
          refine JL.arith rfl (by unfold In64; omega) rfl ?_
          refine JL.pure rfl rfl ?_
          refine JL.nil ?_
          (repeat refine Ex.normal_block ?_)
          refine Ex.again (y + 1, ov2, T'.set y ys) ⟨rfl, rfl, rfl, trivial⟩ ⟨h12, by simp [hT'l], fun j hj => ?_, ?_⟩ (by simp; omega)
          · simp only at hj ⊢
            rw [List.getElem?_set_ne (by omega)]
            exact hTT j (by omega)
          · simp only
            rw [outR_succ, ← hml]
            have : k = (mergeL ys).length := by omega
            subst this
            rw [List.take_length] at H
            exact H.drop 0
    · intro h12
      (try simp only [Bool.not_eq_true', Bool.not_eq_false', decide_eq_true_eq, decide_eq_false_iff_not] at h12)
      
      ((repeat refine JC.seq ?_); refine JC.exit ?_)
      (repeat (first | refine Ex.exit_then ?_ | refine Ex.exit_miss (by decide) ?_))
      refine Ex.exit_hit ?_
      ((repeat refine Ex.normal_block ?_); refine Ex.next ?_)
      ((repeat refine JC.seq ?_); refine JC.region ?_)
      have hy' : y = 256 := by omega
      subst hy'
      have H := (H.drop 1).perm List.perm_middle.symm
      have H := H.right
      obtain ⟨oa, oc, rfl⟩ := H.row_slice (j := 0) rfl
      refine JL.pure rfl rfl ?_
      refine JL.len rfl Try.underlying50 rfl ?_
      refine JL.pure rfl rfl ?_
      refine JL.nil ?_
      ((repeat refine Ex.normal_block ?_); refine Ex.next ?_)
      ((repeat refine JC.seq ?_); refine JC.cond rfl ?_ ?_)
      · intro h38
        (try simp only [Bool.not_eq_true', Bool.not_eq_false', decide_eq_true_eq, decide_eq_false_iff_not] at h38)
        ((repeat refine JC.seq ?_); refine JC.region ?_)
        refine JL.pure rfl rfl ?_
        refine JL.pure rfl rfl ?_
        refine JL.nil ?_
        ((repeat refine Ex.normal_block ?_); refine Ex.next ?_)
        ((repeat refine JC.seq ?_); refine JC.ret ?_)
        (repeat (first | refine Ex.ret_then ?_ | refine Ex.ret_block ?_))
        refine Ex.ret2 rfl (.tmp rfl) (.tmp rfl) (.inl ⟨?_, rfl, H.drop 0⟩)
        have : (8192 : Int) < ((outR T 256).length : Int) := h38
        unfold regR; omega
      · intro h38
        (try simp only [Bool.not_eq_true', Bool.not_eq_false', decide_eq_true_eq, decide_eq_false_iff_not] at h38)
        ((repeat refine JC.seq ?_); refine JC.skip ?_)
        ((repeat refine Ex.normal_block ?_); refine Ex.next ?_)
        ((repeat refine JC.seq ?_); refine JC.region ?_)
        refine JL.pure rfl rfl ?_
        refine JL.pure rfl rfl ?_
        refine JL.pure rfl rfl ?_
        refine JL.nil ?_
        ((repeat refine Ex.normal_block ?_); refine Ex.next ?_)
        ((repeat refine JC.seq ?_); refine JC.ret ?_)
        (repeat (first | refine Ex.ret_then ?_ | refine Ex.ret_block ?_))
        refine Ex.ret2 rfl (.tmp rfl) (.tmp rfl) (.inr ⟨?_, _, rfl, H⟩)
        have : ¬ (8192 : Int) < ((outR T 256).length : Int) := h38
        unfold regR; omega
end Go.J
