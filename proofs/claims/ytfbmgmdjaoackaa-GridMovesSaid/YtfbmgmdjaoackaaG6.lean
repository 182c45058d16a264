/-
  Lemmas for the statements of this seat; no statement is proved here. No condition.
-/
import Derived.Test.YtfbmgmdjaoackaaG5
import Derived.Test.YtfbmgmdjaoackaaJRow
namespace Go.J
open Go.RowKit Go.Proofs
set_option maxRecDepth 8000
set_option linter.unusedSimpArgs false
set_option linter.unusedVariables false
theorem join219 (x y : Span) (w : World) : Pur Try.prog 219 #[.agg ⟨x.cs⟩, .agg ⟨y.cs⟩] w (.tuple #[.agg ⟨[.int .i64 x.a, .int .i64 (max x.b y.b)]⟩, .bool (decide (y.a ≤ x.b))]) := by
  refine pur_J (args := [.agg ⟨x.cs⟩, .agg ⟨y.cs⟩]) Try.func219 rfl Try.ntmps219 rfl ?_
  have H := Own.start w
  ((repeat refine JC.seq ?_); refine JC.region ?_)
  refine JL.box H rfl rfl rfl ?_
  intro b2 w1 H
  refine JL.box H rfl rfl rfl ?_
  intro b3 w2 H
  refine JL.alloc H z306 rfl ?_
  intro b4 w3 H
  refine JL.pure rfl rfl ?_
  refine JL.nil ?_
  ((repeat refine Ex.normal_block ?_); refine Ex.next ?_)
  ((repeat refine JC.seq ?_); refine JC.drawE 14 [13] (fun p => bif Nat.beq p 0 then [blk b4 (.cells ⟨[.int .i64 0, .int .i64 0]⟩ 306 (0, 0)), blk b3 (.cells ⟨y.cs⟩ 306 (0, 0)), blk b2 (.cells ⟨x.cs⟩ 306 (0, 0))] else [blk b4 (.cells ⟨[.int .i64 x.a, .int .i64 (max x.b y.b)]⟩ 306 (0, 0)), blk b3 (.cells ⟨y.cs⟩ 306 (0, 0)), blk b2 (.cells ⟨x.cs⟩ 306 (0, 0))]) H rfl mixed (by kernel_rfl) rfl ?_)
  refine JD.fieldAddr rfl Try.underlying306 rfl sh3 rfl ?_
  refine JD.loadB 2 rfl sh3 rfl rfl rfl ?_
  refine JD.fieldAddr rfl Try.underlying306 rfl sh3 rfl ?_
  refine JD.loadB 2 rfl sh3 rfl rfl rfl ?_
  refine JD.fieldAddr rfl Try.underlying306 rfl sh3 rfl ?_
  refine JD.loadB 1 rfl sh3 rfl rfl rfl ?_
  refine JD.pure rfl rfl ?_
  refine JD.build s306 rfl rfl ?_
  refine JD.fieldAddr rfl Try.underlying306 rfl sh3 rfl ?_
  refine JD.loadK rfl sh3 (by
    rintro (_ | _ | p) w hp hK
    · exact LdAt.of_block (Own.get (i := 1) hK rfl).2 rfl
    · exact LdAt.of_block (Own.get (i := 1) hK rfl).2 rfl
    · simp at hp) rfl ?_
  refine JD.fieldAddr rfl Try.underlying306 rfl sh3 rfl ?_
  refine JD.loadK rfl sh3 (by
    rintro (_ | _ | p) w hp hK
    · exact LdAt.of_block (Own.get (i := 2) hK rfl).2 rfl
    · exact LdAt.of_block (Own.get (i := 2) hK rfl).2 rfl
    · simp at hp) rfl ?_
  refine JD.pure rfl rfl ?_
  refine JD.storeB 0 0 (by rintro (_ | _ | p) hp h; rfl; exact absurd h (by decide); simp at hp) rfl rfl rfl sh306 rfl rfl rfl rfl rfl rfl ?_
  refine JD.nil ?_
  intro w4 H
  show JL _ _ _ _ _ _ _
  refine JL.pure rfl rfl ?_
  refine JL.nil ?_
  ((repeat refine Ex.normal_block ?_); refine Ex.next ?_)
  ((repeat refine JC.seq ?_); refine JC.ret ?_)
  (repeat (first | refine Ex.ret_then ?_ | refine Ex.ret_block ?_))
  refine Ex.ret2 rfl (.cell rfl sh306 (LdAt.of_block (H.get (i := 0) rfl).2 rfl)) (.tmp rfl) ⟨rfl, H.below⟩
def mstep (out : List Span) (x : Span) : List Span := match out.getLast? with
  | some l => if x.a ≤ l.b then out.dropLast ++ [⟨l.a, max l.b x.b⟩] else out ++ [x]
  | none => out ++ [x]
def mergeL (ys : List Span) : List Span := ys.foldl mstep []
theorem mstep_join {out : List Span} {l x : Span} (h : out[out.length - 1]? = some l) (hx : x.a ≤ l.b) : mstep out x = out.set (out.length - 1) ⟨l.a, max l.b x.b⟩ := by
  have h' : out.getLast? = some l := by rw [List.getLast?_eq_getElem?]; exact h
  unfold mstep
  rw [h']
  simp only [hx, if_true]
  have hl : out.length - 1 < out.length := (List.getElem?_eq_some_iff.1 h).1
  rw [List.set_eq_take_drop _ _ _ hl, List.dropLast_eq_take, List.drop_of_length_le (by omega)]
theorem mstep_app {out : List Span} {x : Span} (h : ∀ l, out[out.length - 1]? = some l → ¬ x.a ≤ l.b) : mstep out x = out ++ [x] := by
  unfold mstep
  rw [List.getLast?_eq_getElem?]
  cases hc : out[out.length - 1]? with
  | none => rfl
  | some l => simp only [h l hc, if_false]
theorem merge_take {ys : List Span} {k : Nat} (hk : k < ys.length) : mergeL (ys.take (k + 1)) = mstep (mergeL (ys.take k)) ys[k] := by
  unfold mergeL
  rw [List.take_succ_eq_append_getElem hk, List.foldl_append]
  rfl
theorem mstep_len (out : List Span) (x : Span) : (mstep out x).length ≤ out.length + 1 := by
  unfold mstep
  split
  · split
    · simp <;> omega
    · simp
  · simp
theorem merge_len (ys : List Span) : ∀ out, (ys.foldl mstep out).length ≤ out.length + ys.length := by
  induction ys with
  | nil => intro out; simp
  | cons y ys ih => intro out; have := ih (mstep out y); have := mstep_len out y; simp; omega
theorem merged_c {w0 w : World} {L : List HP} (H : Own w0 w L) {j : Nat} {v : Value} {xs : List Span} (hj : L[j]? = some (spRow v xs)) (hx : ∀ s ∈ xs, -1152921504606846976 ≤ s.a ∧ s.a ≤ 1152921504606846976) (hn : xs.length ≤ 1000000000000) :
    Calls Try.prog 217 #[v, .func (.func 218) #[] #[], .func (.func 219) #[] #[]] w
      (fun e w' => ∃ v' ys, e = .returned v' ∧ ys.Perm xs ∧ ys.Pairwise (fun a b => a.a ≤ b.a) ∧ Own w0 w' (spRow v' (mergeL ys) :: L.set j (spRow v ys))) := by
  refine calls_J (args := [v, .func (.func 218) #[] #[], .func (.func 219) #[] #[]]) Try.func217 rfl Try.ntmps217 rfl ?_
  have hjl : j < L.length := (List.getElem?_eq_some_iff.1 hj).1
  obtain ⟨a0, c0, rfl⟩ := H.row_slice hj
  ((repeat refine JC.seq ?_); refine JC.region ?_)
  refine JL.pure rfl rfl ?_
  refine JL.nil ?_
  ((repeat refine Ex.normal_block ?_); refine Ex.next ?_)
  ((repeat refine JC.seq ?_); refine JC.region ?_)
  refine JL.pure rfl rfl ?_
  refine JL.pure rfl rfl ?_
  refine JL.call fb275 rfl rfl (sort_c H hj hx hn) ?_
  rintro _ w1 ⟨rfl, ys, hperm, hsort, H⟩
  refine ⟨_, rfl, ?_⟩
  have hylen := hperm.length_eq
  have hjy : (L.set j (spRow (.slice a0 xs.length c0) ys))[j]? = some (spRow (.slice a0 xs.length c0) ys) := List.getElem?_set_self hjl
  generalize hL1 : L.set j (spRow (.slice a0 xs.length c0) ys) = L1 at *
  
  refine JL.nil ?_
  ((repeat refine Ex.normal_block ?_); refine Ex.next ?_)
  ((repeat refine JC.seq ?_); refine JC.region ?_)
  refine JL.pure rfl rfl ?_
  refine JL.nil ?_
  ((repeat refine Ex.normal_block ?_); refine Ex.next ?_)
  ((repeat refine JC.seq ?_); refine JC.region ?_)
  refine JL.pure rfl rfl ?_
  refine JL.len rfl Try.underlying193 rfl ?_
  refine JL.pure rfl rfl ?_
  refine JL.nil ?_
  ((repeat refine Ex.normal_block ?_); refine Ex.next ?_)
  ((repeat refine JC.seq ?_); refine JC.block ?_)
  ((repeat refine JC.seq ?_); refine JC.loop (ι := Nat × Value) (fun x => [(2, .func (.func 219) #[] #[]), (16, .slice a0 xs.length c0), (17, .int .i64 xs.length), (18, .int .i64 x.1), (7, x.2)])
    (fun x wr => x.1 ≤ ys.length ∧ Own w0 wr (spRow x.2 (mergeL (ys.take x.1)) :: L1)) (fun x => ys.length - x.1) (0, .slice none 0 0) ?_ ?_ ?_)
  · exact ⟨rfl, rfl, rfl, rfl, rfl, trivial⟩
  · exact ⟨Nat.zero_le _, H.nilRow 306 2⟩
  · rintro ⟨k, ov⟩ wr ⟨hk, H⟩
    simp only at hk H
    obtain ⟨oa, oc, rfl⟩ := H.row_slice (j := 0) rfl
    have hol : (mergeL (ys.take k)).length ≤ 1000000000000 := Nat.le_trans (merge_len (ys.take k) []) (by simp; omega)
    generalize hout : mergeL (ys.take k) = out at H
    rw [hout] at hol
    ((repeat refine JC.seq ?_); refine JC.region ?_)
    refine JL.pure rfl rfl ?_
    refine JL.nil ?_
    ((repeat refine Ex.normal_block ?_); refine Ex.next ?_)
    ((repeat refine JC.seq ?_); refine JC.cond rfl ?_ ?_)
    · intro h19
      (try simp only [Bool.not_eq_true', Bool.not_eq_false', decide_eq_true_eq, decide_eq_false_iff_not] at h19)
      have h19 : k < ys.length := by omega
      have hx : ys[k]? = some ys[k] := by simp [h19]
      obtain ⟨g, c, hg, _, _, _⟩ := H.rowAt (j := j + 1) (e := 306) (sz := 2) (enc := Span.cs) (fun _ => rfl) hjy hx
      simp only [Value.slice.injEq] at hg
      obtain ⟨rfl, _, rfl⟩ := hg
      ((repeat refine JC.seq ?_); refine JC.skip ?_)
      ((repeat refine Ex.normal_block ?_); refine Ex.next ?_)
      ((repeat refine JC.seq ?_); refine JC.block ?_)
      ((repeat refine JC.seq ?_); refine JC.region ?_)
      refine JL.indexS k rfl rfl Try.underlying193 sh306 rfl (by omega) rfl ?_
      refine JL.load rfl sh306 (H.rowLd (j := j + 1) (e := 306) (sz := 2) (enc := Span.cs) (fun _ => rfl) hjy hx) rfl ?_
      refine JL.alloc H z306 rfl ?_
      intro b9 w2 H
      refine JL.storeB 0 H rfl rfl sh306 rfl rfl rfl rfl rfl ?_
      intro w3 H
      refine JL.nil ?_
      ((repeat refine Ex.normal_block ?_); refine Ex.next ?_)
      ((repeat refine JC.seq ?_); refine JC.region ?_)
      refine JL.pure rfl rfl ?_
      refine JL.len rfl Try.underlying193 rfl ?_
      refine JL.pure rfl rfl ?_
      refine JL.nil ?_
      ((repeat refine Ex.normal_block ?_); refine Ex.next ?_)
      ((repeat refine JC.seq ?_); refine JC.region ?_)
      refine JL.pure rfl rfl ?_
      refine JL.pure rfl rfl ?_
      refine JL.nil ?_
      ((repeat refine Ex.normal_block ?_); refine Ex.next ?_)
      ((repeat refine JC.seq ?_); refine JC.cond rfl ?_ ?_)
      · intro h25
        (try simp only [Bool.not_eq_true', Bool.not_eq_false', decide_eq_true_eq, decide_eq_false_iff_not] at h25)
        have hpos : 0 < out.length := by omega
        have hlast : out[out.length - 1]? = some out[out.length - 1] := by simp [hpos]
        obtain ⟨g2, c2, hg2, _, _, _⟩ := H.rowAt (j := 1) (e := 306) (sz := 2) (enc := Span.cs) (fun _ => rfl) rfl hlast
        simp only [Value.slice.injEq] at hg2
        obtain ⟨rfl, _, rfl⟩ := hg2
        ((repeat refine JC.seq ?_); refine JC.draw 14 H mixed (by kernel_rfl) rfl ?_)
        refine JD.pure rfl rfl ?_
        refine JD.pure rfl rfl ?_
        refine JD.pure rfl rfl ?_
        refine JD.arith rfl (by unfold In64; omega) rfl ?_
        refine JD.indexS (out.length - 1) rfl rfl Try.underlying193 sh306 (by omega) (by omega) rfl ?_
        refine JD.load rfl sh306 (fun w hw => hw.rowLd (j := 1) (e := 306) (sz := 2) (enc := Span.cs) (fun _ => rfl) rfl hlast) rfl ?_
        refine JD.loadB 0 rfl sh306 rfl rfl rfl ?_
        refine JD.callv rfl fb219 rfl rfl (fun w hw => join219 _ _ _) ?_
        refine JD.pure rfl rfl ?_
        refine JD.pure rfl rfl ?_
        refine JD.pure rfl rfl ?_
        refine JD.allocS 12 (.tmp 35) z306 rfl rfl ?_
        refine JD.storeF rfl rfl rfl sh306 rfl rfl rfl ?_
        refine JD.pure rfl rfl ?_
        refine JD.nil ?_
        intro w4 v11 H
        obtain ⟨b11, rfl, H⟩ := H.ptr (j := 0) rfl
        show JL _ _ _ _ _ _ _
        refine JL.nil ?_
        ((repeat refine Ex.normal_block ?_); refine Ex.next ?_)
        ((repeat refine JC.seq ?_); refine JC.region ?_)
        refine JL.pure rfl rfl ?_
        refine JL.nil ?_
        ((repeat refine Ex.normal_block ?_); refine Ex.next ?_)
        ((repeat refine JC.seq ?_); refine JC.cond rfl ?_ ?_)
        · intro h37
          (try simp only [Bool.not_eq_true', Bool.not_eq_false', decide_eq_true_eq, decide_eq_false_iff_not] at h37)
          
          ((repeat refine JC.seq ?_); refine JC.region ?_)
          refine JL.pure rfl rfl ?_
          refine JL.pure rfl rfl ?_
          refine JL.arith rfl (by unfold In64; omega) rfl ?_
          refine JL.loadB 0 H rfl sh306 rfl rfl rfl ?_
          refine JL.indexS (out.length - 1) rfl rfl Try.underlying193 sh306 (by omega) (by omega) rfl ?_
          refine JL.storeRow (e := 306) (sz := 2) (enc := Span.cs) 2 H (fun _ => rfl) rfl (⟨out[out.length - 1].a, max out[out.length - 1].b ys[k].b⟩ : Span) rfl rfl sh306 rfl rfl (by omega) ?_
          intro w5 H
          refine JL.nil ?_
          ((repeat refine Ex.normal_block ?_); refine Ex.next ?_)
          ((repeat refine JC.seq ?_); refine JC.exit ?_)
          (repeat (first | refine Ex.exit_then ?_ | refine Ex.exit_miss (by decide) ?_))
          refine Ex.exit_hit ?_
          ((repeat refine Ex.normal_block ?_); refine Ex.next ?_)
          ((repeat refine JC.seq ?_); refine JC.region ?_)
          refine JL.arith rfl (by unfold In64; omega) rfl ?_
          refine JL.pure rfl rfl ?_
          refine JL.nil ?_
          (repeat refine Ex.normal_block ?_)
          have H := H.drop 0
          have H := H.drop 0
          refine Ex.again (k + 1, _) ⟨rfl, rfl, rfl, rfl, rfl, trivial⟩ ⟨h19, ?_⟩ (by simp; omega)
          rw [merge_take h19, hout, mstep_join hlast h37]
          exact H
        · intro h37
          (try simp only [Bool.not_eq_true', Bool.not_eq_false', decide_eq_true_eq, decide_eq_false_iff_not] at h37)
          have hno : ∀ l, out[out.length - 1]? = some l → ¬ ys[k].a ≤ l.b := by
            intro l hl
            rw [hlast] at hl
            cases hl
            exact h37
          ((repeat refine JC.seq ?_); refine JC.skip ?_)
          ((repeat refine Ex.normal_block ?_); refine Ex.next ?_)
          ((repeat refine JC.seq ?_); refine JC.region ?_)
          refine JL.pure rfl rfl ?_
          refine JL.loadB 1 H rfl sh306 rfl rfl rfl ?_
          refine JL.buildSlice H Try.underlying193 sh306 z306 rfl rfl rfl rfl rfl ?_
          intro b45 w6 H
          refine JL.append1 (news := ys[k].cs) 3 0 H Try.underlying193 ap306 rfl rfl rfl rfl rfl rfl (by omega) (by omega) rfl ?_
          intro ov' w7 H
          replace H : Own _ _ ((_ :: _ :: _ :: row 306 2 ov' (out.length + 1) (spCells out ++ ys[k].cs) :: L1)) := H
          rw [show row 306 2 ov' (out.length + 1) (spCells out ++ ys[k].cs) = spRow ov' (out ++ [ys[k]]) by unfold spRow; simp [spCells]] at H
          refine JL.pure rfl rfl ?_
          refine JL.nil ?_
          ((repeat refine Ex.normal_block ?_); refine Ex.next ?_)
          ((repeat refine JC.seq ?_); refine JC.region ?_)
          refine JL.arith rfl (by unfold In64; omega) rfl ?_
          refine JL.pure rfl rfl ?_
          refine JL.nil ?_
          (repeat refine Ex.normal_block ?_)
          have H := H.drop 0
          have H := H.drop 0
          have H := H.drop 0
          refine Ex.again (k + 1, _) ⟨rfl, rfl, rfl, rfl, rfl, trivial⟩ ⟨h19, ?_⟩ (by simp; omega)
          rw [merge_take h19, hout, mstep_app hno]
          exact H
      · intro h25
        (try simp only [Bool.not_eq_true', Bool.not_eq_false', decide_eq_true_eq, decide_eq_false_iff_not] at h25)
        have hno : ∀ l, out[out.length - 1]? = some l → ¬ ys[k].a ≤ l.b := by
          intro l hl
          have := (List.getElem?_eq_some_iff.1 hl).1
          omega
        ((repeat refine JC.seq ?_); refine JC.skip ?_)
        ((repeat refine Ex.normal_block ?_); refine Ex.next ?_)
        ((repeat refine JC.seq ?_); refine JC.region ?_)
        refine JL.pure rfl rfl ?_
        refine JL.loadB 0 H rfl sh306 rfl rfl rfl ?_
        refine JL.buildSlice H Try.underlying193 sh306 z306 rfl rfl rfl rfl rfl ?_
        intro b45_7 w8 H
        refine JL.append1 (news := ys[k].cs) 2 0 H Try.underlying193 ap306 rfl rfl rfl rfl rfl rfl (by omega) (by omega) rfl ?_
        intro ov' w9 H
        replace H : Own _ _ ((_ :: _ ::  row 306 2 ov' (out.length + 1) (spCells out ++ ys[k].cs) :: L1)) := H
        rw [show row 306 2 ov' (out.length + 1) (spCells out ++ ys[k].cs) = spRow ov' (out ++ [ys[k]]) by unfold spRow; simp [spCells]] at H
        refine JL.pure rfl rfl ?_
        refine JL.nil ?_
        ((repeat refine Ex.normal_block ?_); refine Ex.next ?_)
        ((repeat refine JC.seq ?_); refine JC.region ?_)
        refine JL.arith rfl (by unfold In64; omega) rfl ?_
        refine JL.pure rfl rfl ?_
        refine JL.nil ?_
        (repeat refine Ex.normal_block ?_)
        have H := H.drop 0
        have H := H.drop 0
        refine Ex.again (k + 1, _) ⟨rfl, rfl, rfl, rfl, rfl, trivial⟩ ⟨h19, ?_⟩ (by simp; omega)
        rw [merge_take h19, hout, mstep_app hno]
        exact H
    · intro h19
      (try simp only [Bool.not_eq_true', Bool.not_eq_false', decide_eq_true_eq, decide_eq_false_iff_not] at h19)
      
      ((repeat refine JC.seq ?_); refine JC.exit ?_)
      (repeat (first | refine Ex.exit_then ?_ | refine Ex.exit_miss (by decide) ?_))
      refine Ex.exit_hit ?_
      ((repeat refine Ex.normal_block ?_); refine Ex.next ?_)
      ((repeat refine JC.seq ?_); refine JC.region ?_)
      refine JL.pure rfl rfl ?_
      refine JL.pure rfl rfl ?_
      refine JL.nil ?_
      ((repeat refine Ex.normal_block ?_); refine Ex.next ?_)
      ((repeat refine JC.seq ?_); refine JC.ret ?_)
      (repeat (first | refine Ex.ret_then ?_ | refine Ex.ret_block ?_))
      refine Ex.ret1 rfl (.tmp rfl) ⟨_, ys, rfl, hperm, hsort, ?_⟩
      have : k = ys.length := by omega
      subst this
      simp at hout
      rw [hL1, hout]
      exact H
end Go.J
