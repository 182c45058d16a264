/-
  Lemmas for the statements of this seat; no statement is proved here. No condition.
-/
import Derived.Test.YtfbmgmdjaoackaaJLay
import Derived.Test.YtfbmgmdjaoackaaM2
import Derived.Laws.StructEq
namespace Go.J
set_option linter.unusedSimpArgs false
set_option linter.unusedVariables false
open Go.RowKit Go.Proofs Go.Shelf Go.Lib Go.Sort
set_option maxRecDepth 8000
abbrev BSpan := { s : Span // -1152921504606846976 ≤ s.a ∧ s.a ≤ 1152921504606846976 }
instance : Inhabited BSpan := ⟨⟨⟨0, 0⟩, by decide⟩⟩
def BSpan.enc (s : BSpan) : List Value := s.1.cs
def bcmp (x y : BSpan) : Int := x.1.a - y.1.a
theorem wrap_sub {a b : Int} (ha : -1152921504606846976 ≤ a ∧ a ≤ 1152921504606846976) (hb : -1152921504606846976 ≤ b ∧ b ≤ 1152921504606846976) : IntKind.i64.wrap (a - b) = a - b := w64_id (by unfold In64; omega)
set_option maxHeartbeats 1000000 in
theorem cmp218 (x y : BSpan) (W : World) : Calls Try.prog 218 #[.agg #[.int .i64 x.1.a, .int .i64 x.1.b], .agg #[.int .i64 y.1.a, .int .i64 y.1.b]] W fun e w' => e = .returned (.int .i64 (bcmp x y)) ∧ ∃ q os', w' = grow (W.drewN q) os' := by
  have hw := wrap_sub x.2 y.2
  unfold bcmp
  generalize x.1.a = p, x.1.b = q, y.1.a = r, y.1.b = s at *
  go_enter Try.func218, Try.ntmps218
  go_wp2
  go_ret
  exact ⟨rfl, 0, _, by rw [alloc_eq_grow, alloc_eq_grow, grow_grow]; rfl⟩
theorem sh306' : tySh Try.prog 306 = some (true, 2) := by kernel_rfl
theorem fb218' : hasBody Try.prog 218 = true := by kernel_rfl
theorem cmpLays218 (blk off size : Nat) (w : World) : CmpLays Try.prog 218 #[] BSpan.enc 2 bcmp blk off size w := fun _ _ _ _ x y => cmp218 x y _
theorem swo218 : SWO (ltOf bcmp) where
  irrefl x := by unfold ltOf bcmp; simp
  trans x y z h1 h2 := by unfold ltOf bcmp at *; simp at *; omega
  ntrans x y z h1 h2 := by unfold ltOf bcmp at *; simp at *; omega
theorem spCells_get : ∀ (xs : List Span) (j : Nat), (spCells xs)[j]? = (xs[j / 2]?).bind fun s => s.cs[j % 2]? := by
  intro xs
  induction xs with
  | nil => intro j; simp [spCells]
  | cons x xs ih =>
    intro j
    have hc : spCells (x :: xs) = .int .i64 x.a :: .int .i64 x.b :: spCells xs := by simp [spCells, Span.cs]
    rw [hc]
    match j with
    | 0 => simp [Span.cs]
    | 1 => simp [Span.cs]
    | j + 2 =>
      simp only [List.getElem?_cons_succ]
      rw [ih j, show (j + 2) / 2 = j / 2 + 1 by omega, show (j + 2) % 2 = j % 2 by omega]
      simp
theorem lift_spans : ∀ (xs : List Span), (∀ s ∈ xs, -1152921504606846976 ≤ s.a ∧ s.a ≤ 1152921504606846976) → ∃ ds : List BSpan, ds.map (·.1) = xs := by
  intro xs
  induction xs with
  | nil => intro _; exact ⟨[], rfl⟩
  | cons x xs ih =>
    intro h
    obtain ⟨ds, hd⟩ := ih fun s hs => h s (List.mem_cons_of_mem _ hs)
    exact ⟨⟨x, h x List.mem_cons_self⟩ :: ds, by simp [hd]⟩
theorem flat_spCells (d : Array BSpan) : (flatK BSpan.enc 2 d).toList = spCells (d.toList.map (·.1)) := by
  apply List.ext_getElem?
  intro j
  rw [spCells_get]
  by_cases hj : j < d.size * 2
  · have h1 : j / 2 < d.size := by omega
    have h2 : (flatK BSpan.enc 2 d).toList[j]? = some (flatK BSpan.enc 2 d)[j]! := by
      rw [getElem!_pos (flatK BSpan.enc 2 d) j (by simpa using hj)]; simp [hj]
    rw [h2, get_flatK _ _ _ _ hj]
    rw [getElem!_pos d (j / 2) h1]
    have h3 : j % 2 < (BSpan.enc d[j / 2]).length := by show j % 2 < 2; omega
    rw [getElem!_pos (BSpan.enc d[j / 2]) (j % 2) h3]
    simp only [h1, Array.getElem?_toList, List.getElem?_map, Array.getElem?_eq_getElem, Option.map_some, Option.bind_some]
    exact (List.getElem?_eq_getElem h3).symm
  · have h1 : ¬ j / 2 < d.size := by omega
    have : (flatK BSpan.enc 2 d).toList[j]? = none := by simp; omega
    rw [this]
    simp [h1]
theorem sort_some {w0 w : World} {L : List HP} (H : Own w0 w L) {j : Nat} {g cap : Nat} {xs : List Span} (hj : L[j]? = some (spRow (.slice (some ⟨g, 0, none⟩) xs.length cap) xs)) (hx : ∀ s ∈ xs, -1152921504606846976 ≤ s.a ∧ s.a ≤ 1152921504606846976) (hn : xs.length ≤ 1000000000000) :
    Calls Try.prog 275 #[.slice (some ⟨g, 0, none⟩) xs.length cap, .func (.func 218) #[] #[]] w
      (fun e w' => e = .returned (.tuple #[]) ∧ ∃ ys : List Span, ys.Perm xs ∧ ys.Pairwise (fun a b => a.a ≤ b.a) ∧ Own w0 w' (L.set j (spRow (.slice (some ⟨g, 0, none⟩) xs.length cap) ys))) := by
  obtain ⟨hlen, hs⟩ := H.row_shape hj
  rcases hs with ⟨h, _⟩ | ⟨g', cap', cur, h, h1, h2, h3, h4, h5, h6, H'⟩
  · cases h
  cases h
  obtain ⟨ds, rfl⟩ := lift_spans xs hx
  have hjl : j < L.length := (List.getElem?_eq_some_iff.1 hj).1
  have hsz : ds.toArray.size = (ds.map (·.1)).length := by simp
  have hF := flat_spCells ds.toArray
  simp only at hF
  have hH : HoldsK BSpan.enc 2 w g 0 ds.toArray := by
    intro q hq
    have hq' : q < ds.length * 2 := by simpa using hq
    have e1 : (flatK BSpan.enc 2 ds.toArray).toList[q]? = some (flatK BSpan.enc 2 ds.toArray)[q]! := by
      rw [getElem!_pos (flatK BSpan.enc 2 ds.toArray) q hq]; simp
    rw [hF, ← h4] at e1
    rw [List.getElem?_take] at e1
    split at e1
    · refine ⟨?_, ?_⟩
      · simp only [World.cell?, h6, Nat.zero_add, id]
        simpa using e1
      · simp [World.frozen?, h6]
    · cases e1
  have hlt := lt_of_block h6
  have hcon := AnyQ.slices_SortFunc Try.sortSpan 2 (fun w => (tySh_agg sh306' w).1) (fun w => (tySh_agg sh306' w).2) BSpan.enc (fun _ => rfl) (fun x v hv => by simp [BSpan.enc, Span.cs] at hv; rcases hv with rfl | rfl <;> rfl) bcmp swo218 218 #[] g 0 cap ds.toArray w (callFunc_run fb218') (cmpLays218 _ _ _ _) hH hlt (by
    rw [hsz]; omega)
  rw [hsz] at hcon
  refine Calls.mono hcon ?_
  rintro e w' ⟨rfl, d', n, os, hp, hso, rfl⟩
  obtain ⟨hp1, _, hp3⟩ := hp
  have hd1 : (d'.extract 0 (ds.map (·.1)).length).toList = d'.toList := by rw [← hsz, ← hp1]; simp
  have hd2 : (ds.toArray.extract 0 (ds.map (·.1)).length).toList = ds := by rw [← hsz]; simp
  rw [hd1, hd2] at hp3
  have hlen' : d'.size = ds.length := by simpa using hp1
  refine ⟨rfl, d'.toList.map (·.1), hp3.map _, ?_, ?_⟩
  · rw [List.pairwise_map, List.pairwise_iff_getElem]
    intro p q hp hq hpq
    have h := hso p q (Nat.zero_le _) hpq (by simp at hq ⊢; omega)
    rw [getElem!_pos d' q (by simpa using hq), getElem!_pos d' p (by simpa using hp)] at h
    have h := of_decide_eq_false h
    unfold bcmp at h
    simp only [Array.getElem_toList]
    omega
  · have hF' := flat_spCells d'
    have hcells : (sortWorldK BSpan.enc 2 w g 0 n d' os).heap[g]? = some (.cells (putCells id 0 (flatK BSpan.enc 2 d') cur) 306 (0, 0)) := by
      show ((w.heap.modify g (onCells (putCells id 0 (flatK BSpan.enc 2 d')))) ++ os)[g]? = _
      rw [Array.getElem?_append_left (by simpa using hlt), Array.getElem?_modify, if_pos rfl, h6]
      rfl
    have H2 := H'.put (i := j) (β := g) (o := .cells cur 306 (0, 0)) (by simp [hjl]) (.cells (putCells id 0 (flatK BSpan.enc 2 d') cur) 306 (0, 0)) (w' := sortWorldK BSpan.enc 2 w g 0 n d' os)
      rfl rfl rfl (size_sortWorldK_c _ _ _ _ _ _ _ _) (fun k hk hk2 => by
        show ((w.heap.modify g (onCells (putCells id 0 (flatK BSpan.enc 2 d')))) ++ os)[k]? = _
        rw [Array.getElem?_append_left (by simpa using hk2), Array.getElem?_modify, if_neg (fun h => hk h.symm)]) hcells
    rw [List.set_set] at H2
    have hl2 : (spCells (d'.toList.map (·.1))).length = (ds.map (·.1)).length * 2 := by rw [spCells_len]; simp [hlen']
    have hrow := row_of_blk (e := 306) (sz := 2) (g := g) (n := (ds.map (·.1)).length) (cap := cap) (xs := spCells (d'.toList.map (·.1))) (cur := putCells id 0 (flatK BSpan.enc 2 d') cur) hl2 h1 h2
      (by simp [putCells, h3]) (by
        apply List.ext_getElem?
        intro q
        rw [← hF', List.getElem?_take]
        by_cases hq : q < (ds.map (·.1)).length * 2
        · have hq2 : q < d'.size * 2 := by simp at hq; omega
          have hq3 : q < cur.size := by
            have := Nat.mul_le_mul_right 2 h1
            omega
          rw [if_pos hq]
          simp only [putCells, Array.getElem?_toList, Array.getElem?_mapIdx]
          rw [Array.getElem?_eq_getElem hq3]
          simp only [Option.map_some, Nat.zero_le, Nat.zero_add, size_flatK, hq2, true_and, if_true, id, Nat.sub_zero]
          rw [getElem!_pos (flatK BSpan.enc 2 d') q (by simpa using hq2)]
          rw [Array.getElem?_eq_getElem (by simpa using hq2)]
        · have hq2 : ¬ q < d'.size * 2 := by simp at hq; omega
          rw [if_neg hq]
          symm
          simp; omega)
    have H3 := H2.upd (List.getElem?_set_self hjl) hrow
    rw [List.set_set] at H3
    unfold spRow
    rw [show (d'.toList.map (·.1)).length = (ds.map (·.1)).length by simp [hlen']]
    exact H3
end Go.J

namespace Go.J
open Go.RowKit Go.Proofs
set_option maxRecDepth 8000
set_option linter.unusedSimpArgs false
set_option linter.unusedVariables false
theorem ap306 : tyApp Try.prog 306 = some (2, 16) := by kernel_rfl
theorem ap140 : tyApp Try.prog 140 = some (3, 24) := by kernel_rfl
theorem add_c {w0 w : World} {L : List HP} {β : Nat} {T : Tab} (H : Own w0 w (tbl β T :: L)) (W H0 S : Int) (lv : Value) (y a b : Int) (hH : 1 ≤ H0 ∧ H0 ≤ 256) (hW : W ≤ 256)
    (hT : ∀ l ∈ T, l.length ≤ 1000000000) :
    Calls Try.prog 134 #[.pointer (some ⟨β, 0, none⟩), .agg #[.int .i64 W, .int .i64 H0, .int .i64 S, lv], .int .i64 y, .int .i64 a, .int .i64 b] w
      (fun e w' => e = .returned (.tuple #[]) ∧ Own w0 w' (tbl β (T.add W H0 y a b) :: L)) := by
  refine calls_J (args := [.pointer (some ⟨β, 0, none⟩), .agg #[.int .i64 W, .int .i64 H0, .int .i64 S, lv], .int .i64 y, .int .i64 a, .int .i64 b]) Try.func134 rfl Try.ntmps134 rfl ?_
  ((repeat refine JC.seq ?_); refine JC.region ?_)
  refine JL.box H rfl rfl rfl ?_
  intro b6 w1 H
  refine JL.nil ?_
  ((repeat refine Ex.normal_block ?_); refine Ex.next ?_)
  ((repeat refine JC.seq ?_); refine JC.draw 8 H mixed (by kernel_rfl) rfl ?_)
  refine JD.pure rfl rfl ?_
  refine JD.pure rfl rfl ?_
  refine JD.pure rfl rfl ?_
  refine JD.fieldAddr rfl Try.underlying52 rfl sh3 rfl ?_
  refine JD.loadB 0 rfl sh3 rfl rfl rfl ?_
  refine JD.pure rfl rfl ?_
  refine JD.pure rfl rfl ?_
  refine JD.pure rfl rfl ?_
  refine JD.nil ?_
  intro w2 H
  show JL _ _ _ _ _ _ _
  refine JL.nil ?_
  ((repeat refine Ex.normal_block ?_); refine Ex.next ?_)
  ((repeat refine JC.seq ?_); refine JC.region ?_)
  refine JL.pure rfl rfl ?_
  refine JL.fieldAddr rfl Try.underlying52 rfl sh3 rfl ?_
  refine JL.loadB 0 H rfl sh3 rfl rfl rfl ?_
  refine JL.arith rfl (by unfold In64; omega) rfl ?_
  refine JL.callP H fb144 rfl rfl (within_c _ _ _ _) ?_
  intro w3 H _
  refine JL.pure rfl rfl ?_
  refine JL.cases 21 rfl ?_ ?_
  · intro h21
    (try simp only [Bool.not_eq_true', Bool.not_eq_false', decide_eq_true_eq, decide_eq_false_iff_not] at h21)
    refine JL.want rfl rfl ?_
    refine JL.pure rfl rfl ?_
    refine JL.want rfl rfl ?_
    refine JL.pure rfl rfl ?_
    refine JL.want rfl rfl ?_
    refine JL.pure rfl rfl ?_
    refine JL.pure rfl rfl ?_
    refine JL.nil ?_
    ((repeat refine Ex.normal_block ?_); refine Ex.next ?_)
    ((repeat refine JC.seq ?_); refine JC.cond rfl ?_ ?_)
    · intro h25
      (try simp only [Bool.not_eq_true', Bool.not_eq_false', decide_eq_true_eq, decide_eq_false_iff_not] at h25)
      have hy : (0 ≤ y ∧ y ≤ H0 - 1) ∧ max 0 a < min b W := ⟨by simpa using h21, by simpa using h25⟩
      have H := H.front 1 rfl
      obtain ⟨vs, hvs, hTl, H⟩ := H.openT
      have hyT : y.toNat < T.length := by omega
      have hyv : y.toNat < vs.length := by omega
      have hv : vs[y.toNat]? = some vs[y.toNat] := by simp [hyv]
      have hx : T[y.toNat]? = some T[y.toNat] := by simp [hyT]
      have hrow : (rowsL vs T)[y.toNat]? = some (spRow vs[y.toNat] T[y.toNat]) := rowsL_get hv hx
      have hrl := rowsL_len hvs hTl
      obtain ⟨Lx, hLx⟩ : ∃ Lx, Lx = blk β (.cells ⟨vs⟩ 195 (0, 0)) :: (rowsL vs T ++ (blk b6 (.cells ⟨[.int .i64 W, .int .i64 H0, .int .i64 S, lv]⟩ 52 (0, 0)) :: L)) := ⟨_, rfl⟩
      have H := Own.cast (L := Lx) H hLx
      have hL0 : Lx[0]? = some (blk β (.cells ⟨vs⟩ 195 (0, 0))) := by rw [hLx]; rfl
      have hL1 : Lx[1 + y.toNat]? = some (spRow vs[y.toNat] T[y.toNat]) := by rw [hLx]; exact (get_one (by omega)).trans hrow
      ((repeat refine JC.seq ?_); refine JC.drawE 13 [11] (fun p => bif Nat.beq p 0 then Lx else Lx.eraseIdx (1 + y.toNat)) H rfl mixed (by kernel_rfl) rfl ?_)
      refine JD.pure rfl rfl ?_
      refine JD.pure rfl rfl ?_
      refine JD.pure rfl rfl ?_
      refine JD.pure rfl rfl ?_
      refine JD.nilCheck rfl rfl ?_
      refine JD.indexA y.toNat rfl rfl Try.underlying195 sh193 (by omega) (by omega) rfl ?_
      refine JD.load rfl sh193 (fun w hw => by simpa using LdAt.one (Own.get (i := 0) hw hL0).2 hv) rfl ?_
      refine JD.pure rfl rfl ?_
      refine JD.pure rfl rfl ?_
      refine JD.build s306 rfl rfl ?_
      refine JD.buildSlice Try.underlying193 sh306 z306 rfl rfl rfl rfl rfl ?_
      refine JD.append (m := 1) (news := [.int .i64 (max 0 a), .int .i64 (min b W)]) (1 + y.toNat) Try.underlying193 ap306 hL1 rfl rfl rfl rfl rfl rfl (by
        have := hT _ (List.getElem_mem hyT)
        omega) (by
        have := hT _ (List.getElem_mem hyT)
        omega) rfl ?_
      refine JD.nilCheck rfl rfl ?_
      refine JD.nil ?_
      intro w4 v37 v36 H
      obtain ⟨b36, rfl, H⟩ := H.slc (j := 0) rfl
      simp only [Option.isSome_none, Option.isSome_some, cond_false, cond_true] at H
      have H := Own.unfront hL1 (H.drop 0)
      rw [hLx, set_one (by omega)] at H
      obtain ⟨a', c', rfl⟩ := H.row_slice (j := 1 + y.toNat) ((get_one (by simp; omega)).trans (List.getElem?_set_self (by omega)))
      have hnew : row 306 2 (.slice a' (T[y.toNat].length + 1) c') (T[y.toNat].length + 1) (spCells T[y.toNat] ++ [.int .i64 (max 0 a), .int .i64 (min b W)]) = spRow (.slice a' (T[y.toNat].length + 1) c') (T[y.toNat] ++ [⟨max 0 a, min b W⟩]) := by
        unfold spRow; simp [spCells, Span.cs]
      rw [hnew, rowsL_set] at H
      show JL _ _ _ _ _ _ _
      refine JL.indexA y.toNat rfl rfl Try.underlying195 sh193 (by omega) (by omega) rfl ?_
      refine JL.storeB 0 H rfl rfl sh193 rfl rfl rfl (by simpa [cellsL] using setK_one hyv) rfl ?_
      intro w9 H
      have H := H.closeT (by simp [hvs]) (by simp [hTl])
      refine JL.nil ?_
      ((repeat refine Ex.normal_block ?_); refine Ex.end_ ?_)
      refine Ex.ret0 rfl ⟨rfl, ?_⟩
      unfold Tab.add
      rw [if_pos hy, show T.getD y.toNat [] = T[y.toNat] by simp [List.getD, hx]]
      exact H.drop 1
    · intro h25
      (try simp only [Bool.not_eq_true', Bool.not_eq_false', decide_eq_true_eq, decide_eq_false_iff_not] at h25)
      
      ((repeat refine JC.seq ?_); refine JC.skip ?_)
      ((repeat refine Ex.normal_block ?_); refine Ex.end_ ?_)
      refine Ex.ret0 rfl ⟨rfl, ?_⟩
      unfold Tab.add
      rw [if_neg (by simp at *; omega)]
      exact H.drop 0
  · intro h21
    (try simp only [Bool.not_eq_true', Bool.not_eq_false', decide_eq_true_eq, decide_eq_false_iff_not] at h21)
    refine JL.pass rfl rfl rfl rfl ?_
    refine JL.pass rfl rfl rfl rfl ?_
    refine JL.pass rfl rfl rfl rfl ?_
    refine JL.pure rfl rfl ?_
    refine JL.nil ?_
    ((repeat refine Ex.normal_block ?_); refine Ex.next ?_)
    ((repeat refine JC.seq ?_); refine JC.cond rfl (fun h => by cases h) (fun _ => ?_))
    ((repeat refine JC.seq ?_); refine JC.skip ?_)
    ((repeat refine Ex.normal_block ?_); refine Ex.end_ ?_)
    refine Ex.ret0 rfl ⟨rfl, ?_⟩
    unfold Tab.add
    rw [if_neg (by simp at *; omega)]
    exact H.drop 0
end Go.J

namespace Go.J
open Go.RowKit Go.Proofs
set_option maxRecDepth 8000
set_option linter.unusedSimpArgs false
set_option linter.unusedVariables false
theorem ins_nil (f : Value) (w : World) : Pur Try.prog 310 #[.slice none 0 0, .int .i64 0, .int .i64 0, f] w (.tuple #[]) := by
  refine pur_J (args := [.slice none 0 0, .int .i64 0, .int .i64 0, f]) Try.func310 rfl Try.ntmps310 rfl ?_
  have H := Own.start w
  ((repeat refine JC.seq ?_); refine JC.region ?_)
  refine JL.pure rfl rfl ?_
  refine JL.arith rfl (by unfold In64; omega) rfl ?_
  refine JL.pure rfl rfl ?_
  refine JL.nil ?_
  ((repeat refine Ex.normal_block ?_); refine Ex.next ?_)
  ((repeat refine JC.seq ?_); refine JC.block ?_)
  ((repeat refine JC.seq ?_); refine JC.loop (ι := Unit) (fun _ => [(0, .slice none 0 0), (1, .int .i64 0), (2, .int .i64 0), (8, .int .i64 1)])
    (fun _ wr => Own w wr [])
    (fun _ => 0) () ?_ ?_ ?_)
  · exact ⟨rfl, rfl, rfl, rfl, trivial⟩
  · exact H
  · rintro _ wr H
    ((repeat refine JC.seq ?_); refine JC.region ?_)
    refine JL.pure rfl rfl ?_
    refine JL.pure rfl rfl ?_
    refine JL.pure (v := .bool false) rfl rfl ?_
    refine JL.nil ?_
    ((repeat refine Ex.normal_block ?_); refine Ex.next ?_)
    ((repeat refine JC.seq ?_); refine JC.cond rfl (fun h => by cases h) (fun _ => ?_))
    ((repeat refine JC.seq ?_); refine JC.exit ?_)
    (repeat (first | refine Ex.exit_then ?_ | refine Ex.exit_miss (by decide) ?_))
    refine Ex.exit_hit ?_
    ((repeat refine Ex.normal_block ?_); refine Ex.end_ ?_)
    refine Ex.ret0 rfl ⟨rfl, H.below⟩
theorem len0 (w : World) : Pur Try.prog 284 #[.int .u64 0] w (.int .i64 0) :=
  (Any.bits_Len Try.lays125 0 w (by omega) (by omega)).mono fun _ _ ⟨he, hw⟩ => ⟨he, hw ▸ Below.refl _ _⟩
theorem pdq_nil (f n : Value) (w : World) : Pur Try.prog 293 #[.slice none 0 0, .int .i64 0, .int .i64 0, n, f] w (.tuple #[]) := by
  refine pur_J (args := [.slice none 0 0, .int .i64 0, .int .i64 0, n, f]) Try.func293 rfl Try.ntmps293 rfl ?_
  have H := Own.start w
  ((repeat refine JC.seq ?_); refine JC.region ?_)
  refine JL.pure rfl rfl ?_
  refine JL.nil ?_
  ((repeat refine Ex.normal_block ?_); refine Ex.next ?_)
  ((repeat refine JC.seq ?_); refine JC.region ?_)
  refine JL.pure rfl rfl ?_
  refine JL.nil ?_
  ((repeat refine Ex.normal_block ?_); refine Ex.next ?_)
  ((repeat refine JC.seq ?_); refine JC.block ?_)
  ((repeat refine JC.seq ?_); refine JC.loop (ι := Unit) (fun _ => [(0, .slice none 0 0), (1, .int .i64 0), (2, .int .i64 0), (4, f)])
    (fun _ wr => Own w wr [])
    (fun _ => 0) () ?_ ?_ ?_)
  · exact ⟨rfl, rfl, rfl, rfl, trivial⟩
  · exact H
  · rintro _ wr H
    ((repeat refine JC.seq ?_); refine JC.block ?_)
    ((repeat refine JC.seq ?_); refine JC.region ?_)
    refine JL.pure rfl rfl ?_
    refine JL.pure rfl rfl ?_
    refine JL.arith rfl (by unfold In64; omega) rfl ?_
    refine JL.pure rfl rfl ?_
    refine JL.nil ?_
    ((repeat refine Ex.normal_block ?_); refine Ex.next ?_)
    ((repeat refine JC.seq ?_); refine JC.region ?_)
    refine JL.pure rfl rfl ?_
    refine JL.pure (v := .bool true) rfl rfl ?_
    refine JL.nil ?_
    ((repeat refine Ex.normal_block ?_); refine Ex.next ?_)
    ((repeat refine JC.seq ?_); refine JC.cond rfl (fun _ => ?_) (fun h => by cases h))
    ((repeat refine JC.seq ?_); refine JC.region ?_)
    refine JL.pure rfl rfl ?_
    refine JL.pure rfl rfl ?_
    refine JL.pure rfl rfl ?_
    refine JL.pure rfl rfl ?_
    refine JL.callP H fb310 rfl rfl (ins_nil _ _) ?_
    intro w1 H _
    refine JL.nil ?_
    ((repeat refine Ex.normal_block ?_); refine Ex.next ?_)
    ((repeat refine JC.seq ?_); refine JC.ret ?_)
    (repeat (first | refine Ex.ret_then ?_ | refine Ex.ret_block ?_))
    refine Ex.ret0 rfl ⟨rfl, H.below⟩
theorem sort_nil (f : Value) (w : World) : Pur Try.prog 275 #[.slice none 0 0, f] w (.tuple #[]) := by
  refine pur_J (args := [.slice none 0 0, f]) Try.func275 rfl Try.ntmps275 rfl ?_
  have H := Own.start w
  ((repeat refine JC.seq ?_); refine JC.region ?_)
  refine JL.pure rfl rfl ?_
  refine JL.len rfl Try.underlying193 rfl ?_
  refine JL.pure rfl rfl ?_
  refine JL.nil ?_
  ((repeat refine Ex.normal_block ?_); refine Ex.next ?_)
  ((repeat refine JC.seq ?_); refine JC.region ?_)
  refine JL.pure rfl rfl ?_
  refine JL.pure rfl rfl ?_
  refine JL.pure rfl rfl ?_
  refine JL.conv rfl Try.underlying3 Try.underlying350 rfl ?_
  refine JL.callP H fb284 rfl rfl (len0 _) ?_
  intro w1 H _
  refine JL.pure rfl rfl ?_
  refine JL.callP H fb293 rfl rfl (pdq_nil _ _ _) ?_
  intro w2 H _
  refine JL.nil ?_
  ((repeat refine Ex.normal_block ?_); refine Ex.end_ ?_)
  refine Ex.ret0 rfl ⟨rfl, H.below⟩
theorem sort_c {w0 w : World} {L : List HP} (H : Own w0 w L) {j : Nat} {v : Value} {xs : List Span} (hj : L[j]? = some (spRow v xs)) (hx : ∀ s ∈ xs, -1152921504606846976 ≤ s.a ∧ s.a ≤ 1152921504606846976) (hn : xs.length ≤ 1000000000000) :
    Calls Try.prog 275 #[v, .func (.func 218) #[] #[]] w
      (fun e w' => e = .returned (.tuple #[]) ∧ ∃ ys : List Span, ys.Perm xs ∧ ys.Pairwise (fun a b => a.a ≤ b.a) ∧ Own w0 w' (L.set j (spRow v ys))) := by
  obtain ⟨hlen, hs⟩ := H.row_shape hj
  rcases hs with ⟨rfl, h⟩ | ⟨g', cap', cur, rfl, _⟩
  · have : xs = [] := List.eq_nil_of_length_eq_zero h
    subst this
    refine (sort_nil _ w).mono ?_
    rintro e w' ⟨rfl, hb⟩
    exact ⟨rfl, [], List.Perm.refl _, List.Pairwise.nil, (H.grow hb).upd hj (fun _ h => h)⟩
  · exact sort_some H hj hx hn
end Go.J

namespace Go.J
set_option linter.unusedSimpArgs false
set_option linter.unusedVariables false
open Go.RowKit
/-- a row of ours, element by element -/
def trow {α : Type} (e : TypeId) (sz : Nat) (enc : α → List Value) (v : Value) (l : List α) : HP := row e sz v l.length (l.flatMap enc)
theorem flat_len {α : Type} {enc : α → List Value} {sz : Nat} (he : ∀ x, (enc x).length = sz) (l : List α) : (l.flatMap enc).length = l.length * sz := by
  induction l with
  | nil => simp
  | cons x l ih => simp [ih, he, Nat.add_mul]; omega
theorem flat_drop {α : Type} {enc : α → List Value} {sz : Nat} (he : ∀ x, (enc x).length = sz) : ∀ (l : List α) (i : Nat), (l.flatMap enc).drop (i * sz) = (l.drop i).flatMap enc := by
  intro l
  induction l with
  | nil => simp
  | cons x l ih =>
    intro i
    cases i with
    | zero => simp
    | succ i =>
      simp only [List.flatMap_cons, List.drop_succ_cons]
      rw [show (i + 1) * sz = (enc x).length + i * sz by rw [he, Nat.add_mul]; omega, ← List.drop_drop]
      simp [ih]
theorem flat_take {α : Type} {enc : α → List Value} {sz : Nat} (he : ∀ x, (enc x).length = sz) : ∀ (l : List α) (i : Nat), (l.flatMap enc).take (i * sz) = (l.take i).flatMap enc := by
  intro l
  induction l with
  | nil => simp
  | cons x l ih =>
    intro i
    cases i with
    | zero => simp
    | succ i =>
      simp only [List.flatMap_cons, List.take_succ_cons]
      rw [show (i + 1) * sz = (enc x).length + i * sz by rw [he, Nat.add_mul]; omega, List.take_length_add_append, ih]
theorem flat_get {α : Type} {enc : α → List Value} {sz : Nat} (he : ∀ x, (enc x).length = sz) {l : List α} {i : Nat} {x : α} (hx : l[i]? = some x) {q : Nat} (hq : q < sz) : (l.flatMap enc)[i * sz + q]? = (enc x)[q]? := by
  rw [← List.getElem?_drop, flat_drop he]
  have hi : i < l.length := (List.getElem?_eq_some_iff.1 hx).1
  have : l.drop i = x :: l.drop (i + 1) := by
    rw [List.drop_eq_getElem_cons hi]
    congr 1
    exact (List.getElem?_eq_some_iff.1 hx).2
  rw [this, List.flatMap_cons, List.getElem?_append_left (by rw [he]; exact hq)]
theorem trow_snoc {α : Type} (e : TypeId) (sz : Nat) (enc : α → List Value) (v : Value) (l : List α) (x : α) : row e sz v (l.length + 1) (l.flatMap enc ++ enc x) = trow e sz enc v (l ++ [x]) := by
  unfold trow; simp
/-- an element of a row of ours, read -/
theorem Own.rowAt {α : Type} {w0 w : World} {L : List HP} (H : Own w0 w L) {j : Nat} {e : TypeId} {sz : Nat} {enc : α → List Value} {v : Value} {l : List α} (he : ∀ x, (enc x).length = sz)
    (hj : L[j]? = some (trow e sz enc v l)) {i : Nat} {x : α} (hx : l[i]? = some x) :
    ∃ g c, v = .slice (some ⟨g, 0, none⟩) l.length c ∧ w0.heap.size ≤ g ∧ g < w.heap.size ∧ ∀ q u, (enc x)[q]? = some u → w.cell? ⟨g, i * sz + q, none⟩ = some u := by
  obtain ⟨h1, h2⟩ := H.row_shape hj
  have hi : i < l.length := (List.getElem?_eq_some_iff.1 hx).1
  rcases h2 with ⟨_, h⟩ | ⟨g, cap, cur, rfl, h3, h4, h5, h6, h7, h8, _⟩
  · omega
  · refine ⟨g, cap, rfl, h7, lt_of_block h8, fun q u hu => ?_⟩
    have hq : q < sz := by
      have := (List.getElem?_eq_some_iff.1 hu).1
      rwa [he] at this
    have := flat_get he hx hq
    rw [hu, ← h6, List.getElem?_take] at this
    split at this
    · simp only [World.cell?, h8]
      simpa using this
    · cases this
theorem Own.rowLd {α : Type} {w0 w : World} {L : List HP} (H : Own w0 w L) {j : Nat} {e : TypeId} {sz : Nat} {enc : α → List Value} {g n c : Nat} {l : List α} (he : ∀ x, (enc x).length = sz)
    (hj : L[j]? = some (trow e sz enc (.slice (some ⟨g, 0, none⟩) n c) l)) {i : Nat} {x : α} (hx : l[i]? = some x) : LdAt w g (0 + i * sz) (true, sz) (.agg ⟨enc x⟩) := by
  obtain ⟨g', c', h, _, _, hc⟩ := H.rowAt he hj hx
  cases h
  exact ⟨enc x, rfl, he x, fun q u hu => by rw [Nat.zero_add]; exact hc q u hu⟩
theorem Own.rowLd1 {α : Type} {w0 w : World} {L : List HP} (H : Own w0 w L) {j k : Nat} {e : TypeId} {ev : α → Value} {g n c : Nat} {l : List α}
    (hj : L[j]? = some (trow e 1 (fun x => [ev x]) (.slice (some ⟨g, 0, none⟩) n c) l)) {i : Nat} {x : α} (hx : l[i]? = some x) : LdAt w g (0 + i * 1) (false, k) (ev x) := by
  obtain ⟨g', c', h, _, _, hc⟩ := H.rowAt (sz := 1) (enc := fun x => [ev x]) (fun _ => rfl) hj hx
  cases h
  have := hc 0 (ev x) rfl
  show w.cell? _ = _
  simpa using this
/-- a row of ours reads as a slice -/
theorem Own.rowSl {α : Type} {w0 w : World} {L : List HP} (H : Own w0 w L) {j : Nat} {e : TypeId} {sz : Nat} {enc : α → List Value} {v : Value} {l : List α} (he : ∀ x, (enc x).length = sz)
    (hj : L[j]? = some (trow e sz enc v l)) (hn : l.length ≤ 9223372036854775807) : Sl (fun x => .agg ⟨enc x⟩) (true, sz) w v l := by
  obtain ⟨h1, h2⟩ := H.row_shape hj
  rcases h2 with ⟨rfl, h⟩ | ⟨g, cap, cur, rfl, h3, h4, h5, h6, h7, h8, _⟩
  · exact ⟨hn, none, 0, by rw [h], .inl (List.eq_nil_of_length_eq_zero h)⟩
  · refine ⟨hn, _, cap, rfl, .inr ⟨g, 0, rfl, lt_of_block h8, fun i x hx => H.rowLd he hj hx⟩⟩
theorem Own.rowSl1 {α : Type} {w0 w : World} {L : List HP} (H : Own w0 w L) {j : Nat} {e : TypeId} {ev : α → Value} {v : Value} {l : List α}
    (hj : L[j]? = some (trow e 1 (fun x => [ev x]) v l)) (hn : l.length ≤ 9223372036854775807) : Sl ev (false, 1) w v l := by
  obtain ⟨h1, h2⟩ := H.row_shape hj
  rcases h2 with ⟨rfl, h⟩ | ⟨g, cap, cur, rfl, h3, h4, h5, h6, h7, h8, _⟩
  · exact ⟨hn, none, 0, by rw [h], .inl (List.eq_nil_of_length_eq_zero h)⟩
  · refine ⟨hn, _, cap, rfl, .inr ⟨g, 0, rfl, lt_of_block h8, fun i x hx => H.rowLd1 hj hx⟩⟩
theorem Own.blkRow {α : Type} {w0 w : World} {L : List HP} (H : Own w0 w L) {j β : Nat} {e : TypeId} {sz : Nat} {enc : α → List Value} {cs : List Value} (hj : L[j]? = some (blk β (.cells ⟨cs⟩ e (0, 0)))) (l : List α) (hcs : cs = l.flatMap enc)
    (he : ∀ x, (enc x).length = sz) (hn : l.length ≤ 9223372036854775807) : Own w0 w (L.set j (trow e sz enc (.slice (some ⟨β, 0, none⟩) l.length l.length) l)) :=
  H.upd hj (fun h hb => by
    have hl := flat_len he l
    exact row_of_blk hl (Nat.le_refl _) (by simp only [maxLen]; omega) (by simp [hcs, hl]) (by simp only [hcs]; rw [← hl, List.take_length]) h hb)
theorem Own.blkSl {α : Type} {w0 w : World} {L : List HP} (H : Own w0 w L) {j β : Nat} {e : TypeId} {sz : Nat} {enc : α → List Value} {cs : List Value} (hj : L[j]? = some (blk β (.cells ⟨cs⟩ e (0, 0)))) (l : List α) (hcs : cs = l.flatMap enc)
    (he : ∀ x, (enc x).length = sz) (hn : l.length ≤ 9223372036854775807) : Sl (fun x => .agg ⟨enc x⟩) (true, sz) w (.slice (some ⟨β, 0, none⟩) l.length l.length) l :=
  (H.blkRow hj l hcs he hn).rowSl he (List.getElem?_set_self (List.getElem?_eq_some_iff.1 hj).1) hn
theorem Own.blkSl1 {α : Type} {w0 w : World} {L : List HP} (H : Own w0 w L) {j β : Nat} {e : TypeId} {ev : α → Value} {cs : List Value} (hj : L[j]? = some (blk β (.cells ⟨cs⟩ e (0, 0)))) (l : List α) (hcs : cs = l.flatMap fun x => [ev x])
    (hn : l.length ≤ 9223372036854775807) : Sl ev (false, 1) w (.slice (some ⟨β, 0, none⟩) l.length l.length) l :=
  (H.blkRow (enc := fun x => [ev x]) hj l hcs (fun _ => rfl) hn).rowSl1 (List.getElem?_set_self (List.getElem?_eq_some_iff.1 hj).1) hn
theorem setLK_at' {α : Type} {x : HP} : ∀ {i : Nat} {L : List HP} (k : List HP → Option α), i < L.length → setLK x i L k = k (L.set i x) := by
  intro i
  induction i with
  | zero => intro L k h; cases L with
    | nil => simp at h
    | cons c cs => rfl
  | succ o ih => intro cs k h; cases cs with
    | nil => simp at h
    | cons c cs => simp only [setLK, List.set_cons_succ]; exact ih _ (by simpa using h)
theorem setK_gen {α : Type} : ∀ {o : Nat} {vs cs : List Value} (k : List Value → Option α), o + vs.length ≤ cs.length → setK o vs cs k = k (cs.take o ++ vs ++ cs.drop (o + vs.length)) := by
  intro o
  induction o with
  | zero =>
    intro vs
    induction vs with
    | nil => intro cs k _; simp [setK]
    | cons v vs ih =>
      intro cs k h
      cases cs with
      | nil => simp at h
      | cons c cs =>
        simp only [setK]
        rw [ih _ (by simp at h ⊢; omega)]
        simp
  | succ o ih =>
    intro vs cs k h
    cases cs with
    | nil => simp at h
    | cons c cs =>
      simp only [setK]
      rw [ih _ (by simp at h ⊢; omega)]
      simp [Nat.add_right_comm]
section
variable {P : Program} {N : Sz} {ops : Array Oper} {Q : Exit → Act → World → Prop} {rest : List Oper} {fr : Fr} {w w0 : World} {L : List HP}
  {d : Option Tmp} {ty : TypeId} {pos : String} {af : Array Edge}
theorem List.set_eq_take_drop {α : Type} (l : List α) (i : Nat) (x : α) (h : i < l.length) : l.set i x = l.take i ++ x :: l.drop (i + 1) := by
  rw [List.set_eq_take_append_cons_drop, if_pos h]
/-- a store into a row of ours -/
theorem JL.storeRow {α : Type} {x y : Operand} {t : TypeId} {g n c sz i : Nat} {b : Bool} {v : Value} {e : TypeId} {enc : α → List Value} {l : List α} (j : Nat) (H : Own w0 w L) (he : ∀ x, (enc x).length = sz)
    (hj : L[j]? = some (trow e sz enc (.slice (some ⟨g, 0, none⟩) n c) l)) (u : α) (hx : fr.ev x = some (.pointer (some ⟨g, 0 + i * sz, none⟩))) (hy : fr.ev y = some v) (hs : tySh P t = some (b, sz))
    (hv : cellsL v = enc u) (h1 : allOne (enc u) = true) (hi : i < l.length)
    (k : ∀ w', Own w0 w' (L.set j (trow e sz enc (.slice (some ⟨g, 0, none⟩) n c) (l.set i u))) → JL P N ops Q rest fr w') : JL P N ops Q (⟨none, .store t x y, ty, pos, af, none⟩ :: rest) fr w := by
  obtain ⟨h2, h3⟩ := H.row_shape hj
  have hjl : j < L.length := (List.getElem?_eq_some_iff.1 hj).1
  rcases h3 with ⟨h, _⟩ | ⟨g', cap, cur, h, h4, h5, h6, h7, h8, h9, H'⟩
  · cases h
  cases h
  have hfit : (0 + i * sz) + (cellsL v).length ≤ cur.toList.length := by
    rw [hv, he, Nat.zero_add]
    have e1 : (i + 1) * sz ≤ l.length * sz := Nat.mul_le_mul_right _ hi
    have e2 : l.length * sz ≤ c * sz := Nat.mul_le_mul_right _ h4
    rw [Nat.add_mul, Nat.one_mul] at e1
    simp only [Array.length_toList, h6]
    omega
  refine JL.storeB (cs := cur.toList) (cs' := cur.toList.take (0 + i * sz) ++ cellsL v ++ cur.toList.drop (0 + i * sz + (cellsL v).length)) (L' := L.set j (blk g (.cells ⟨cur.toList.take (0 + i * sz) ++ cellsL v ++ cur.toList.drop (0 + i * sz + (cellsL v).length)⟩ e (0, 0)))) j H' hx hy hs
    (e := e) (by rw [List.getElem?_set_self hjl]) (by rw [hv, he]) (by rw [hv]; exact h1) (setK_gen _ hfit) (by rw [setLK_at' _ (by simpa using hjl), List.set_set]) fun w' HH => k w' ?_
  have hl2 : ((l.set i u).flatMap enc).length = (l.set i u).length * sz := flat_len he _
  have hrow : ∀ h, blk g (.cells ⟨cur.toList.take (0 + i * sz) ++ cellsL v ++ cur.toList.drop (0 + i * sz + (cellsL v).length)⟩ e (0, 0)) h → trow e sz enc (.slice (some ⟨g, 0, none⟩) l.length c) (l.set i u) h := by
    intro h hb
    have hfit' := hfit
    rw [hv, he, Nat.zero_add] at hfit'
    rw [hv, he, Nat.zero_add] at hb
    have := row_of_blk (e := e) (sz := sz) (g := g) (n := (l.set i u).length) (cap := c) (xs := (l.set i u).flatMap enc) hl2 (by simpa using h4) h5 (by
      simp only [List.size_toArray, List.length_append, List.length_take, List.length_drop, he]
      simp only [Array.length_toList, h6] at hfit' ⊢
      omega) (by
      simp only [List.length_set]
      rw [List.set_eq_take_drop _ _ _ hi]
      simp only [List.flatMap_append, List.flatMap_cons]
      rw [← flat_take he, ← flat_drop he]
      have e1 : (i + 1) * sz ≤ l.length * sz := Nat.mul_le_mul_right _ hi
      rw [Nat.add_mul, Nat.one_mul] at e1
      rw [← h7, List.take_take, Nat.min_eq_left (by omega), List.append_assoc]
      rw [List.take_append, List.take_take]
      have e3 : (List.take (i * sz) cur.toList).length = i * sz := by simp at hfit' ⊢; omega
      rw [e3, Nat.min_eq_right (by omega)]
      congr 1
      rw [List.take_append, he, List.take_of_length_le (by rw [he]; omega)]
      congr 1
      rw [show (i + 1) * sz = i * sz + sz by rw [Nat.add_mul, Nat.one_mul], List.drop_take]
      congr 1
      omega) h hb
    simpa [trow] using this
  have H3 := HH.upd (List.getElem?_set_self hjl) hrow
  rw [List.set_set] at H3
  exact H3
end
end Go.J

namespace Go.J
open Go.RowKit Go.Proofs
set_option maxRecDepth 8000
set_option linter.unusedSimpArgs false
set_option linter.unusedVariables false
theorem join219 (x y : Span) (w : World) : Pur Try.prog 219 #[.agg ⟨x.cs⟩, .agg ⟨y.cs⟩] w (.tuple #[.agg ⟨[.int .i64 x.a, .int .i64 (max x.b y.b)]⟩, .bool (decide (y.a ≤ x.b))]) := by
  refine pur_J (args := [.agg ⟨x.cs⟩, .agg ⟨y.cs⟩]) Try.func219 rfl Try.ntmps219 rfl ?_
  have H := Own.start w
  ((repeat refine JC.seq ?_); refine JC.region ?_)
  refine JL.box H rfl rfl rfl ?_
  intro b2 w1 H
  refine JL.box H rfl rfl rfl ?_
  intro b3 w2 H
  refine JL.alloc H z306 rfl ?_
  intro b4 w3 H
  refine JL.pure rfl rfl ?_
  refine JL.nil ?_
  ((repeat refine Ex.normal_block ?_); refine Ex.next ?_)
  ((repeat refine JC.seq ?_); refine JC.drawE 14 [13] (fun p => bif Nat.beq p 0 then [blk b4 (.cells ⟨[.int .i64 0, .int .i64 0]⟩ 306 (0, 0)), blk b3 (.cells ⟨y.cs⟩ 306 (0, 0)), blk b2 (.cells ⟨x.cs⟩ 306 (0, 0))] else [blk b4 (.cells ⟨[.int .i64 x.a, .int .i64 (max x.b y.b)]⟩ 306 (0, 0)), blk b3 (.cells ⟨y.cs⟩ 306 (0, 0)), blk b2 (.cells ⟨x.cs⟩ 306 (0, 0))]) H rfl mixed (by kernel_rfl) rfl ?_)
  refine JD.fieldAddr rfl Try.underlying306 rfl sh3 rfl ?_
  refine JD.loadB 2 rfl sh3 rfl rfl rfl ?_
  refine JD.fieldAddr rfl Try.underlying306 rfl sh3 rfl ?_
  refine JD.loadB 2 rfl sh3 rfl rfl rfl ?_
  refine JD.fieldAddr rfl Try.underlying306 rfl sh3 rfl ?_
  refine JD.loadB 1 rfl sh3 rfl rfl rfl ?_
  refine JD.pure rfl rfl ?_
  refine JD.build s306 rfl rfl ?_
  refine JD.fieldAddr rfl Try.underlying306 rfl sh3 rfl ?_
  refine JD.loadK rfl sh3 (by
    rintro (_ | _ | p) w hp hK
    · exact LdAt.of_block (Own.get (i := 1) hK rfl).2 rfl
    · exact LdAt.of_block (Own.get (i := 1) hK rfl).2 rfl
    · simp at hp) rfl ?_
  refine JD.fieldAddr rfl Try.underlying306 rfl sh3 rfl ?_
  refine JD.loadK rfl sh3 (by
    rintro (_ | _ | p) w hp hK
    · exact LdAt.of_block (Own.get (i := 2) hK rfl).2 rfl
    · exact LdAt.of_block (Own.get (i := 2) hK rfl).2 rfl
    · simp at hp) rfl ?_
  refine JD.pure rfl rfl ?_
  refine JD.storeB 0 0 (by rintro (_ | _ | p) hp h; rfl; exact absurd h (by decide); simp at hp) rfl rfl rfl sh306 rfl rfl rfl rfl rfl rfl ?_
  refine JD.nil ?_
  intro w4 H
  show JL _ _ _ _ _ _ _
  refine JL.pure rfl rfl ?_
  refine JL.nil ?_
  ((repeat refine Ex.normal_block ?_); refine Ex.next ?_)
  ((repeat refine JC.seq ?_); refine JC.ret ?_)
  (repeat (first | refine Ex.ret_then ?_ | refine Ex.ret_block ?_))
  refine Ex.ret2 rfl (.cell rfl sh306 (LdAt.of_block (H.get (i := 0) rfl).2 rfl)) (.tmp rfl) ⟨rfl, H.below⟩
def mstep (out : List Span) (x : Span) : List Span := match out.getLast? with
  | some l => if x.a ≤ l.b then out.dropLast ++ [⟨l.a, max l.b x.b⟩] else out ++ [x]
  | none => out ++ [x]
def mergeL (ys : List Span) : List Span := ys.foldl mstep []
theorem mstep_join {out : List Span} {l x : Span} (h : out[out.length - 1]? = some l) (hx : x.a ≤ l.b) : mstep out x = out.set (out.length - 1) ⟨l.a, max l.b x.b⟩ := by
  have h' : out.getLast? = some l := by rw [List.getLast?_eq_getElem?]; exact h
  unfold mstep
  rw [h']
  simp only [hx, if_true]
  have hl : out.length - 1 < out.length := (List.getElem?_eq_some_iff.1 h).1
  rw [List.set_eq_take_drop _ _ _ hl, List.dropLast_eq_take, List.drop_of_length_le (by omega)]
theorem mstep_app {out : List Span} {x : Span} (h : ∀ l, out[out.length - 1]? = some l → ¬ x.a ≤ l.b) : mstep out x = out ++ [x] := by
  unfold mstep
  rw [List.getLast?_eq_getElem?]
  cases hc : out[out.length - 1]? with
  | none => rfl
  | some l => simp only [h l hc, if_false]
theorem merge_take {ys : List Span} {k : Nat} (hk : k < ys.length) : mergeL (ys.take (k + 1)) = mstep (mergeL (ys.take k)) ys[k] := by
  unfold mergeL
  rw [List.take_succ_eq_append_getElem hk, List.foldl_append]
  rfl
theorem mstep_len (out : List Span) (x : Span) : (mstep out x).length ≤ out.length + 1 := by
  unfold mstep
  split
  · split
    · simp <;> omega
    · simp
  · simp
theorem merge_len (ys : List Span) : ∀ out, (ys.foldl mstep out).length ≤ out.length + ys.length := by
  induction ys with
  | nil => intro out; simp
  | cons y ys ih => intro out; have := ih (mstep out y); have := mstep_len out y; simp; omega
theorem merged_c {w0 w : World} {L : List HP} (H : Own w0 w L) {j : Nat} {v : Value} {xs : List Span} (hj : L[j]? = some (spRow v xs)) (hx : ∀ s ∈ xs, -1152921504606846976 ≤ s.a ∧ s.a ≤ 1152921504606846976) (hn : xs.length ≤ 1000000000000) :
    Calls Try.prog 217 #[v, .func (.func 218) #[] #[], .func (.func 219) #[] #[]] w
      (fun e w' => ∃ v' ys, e = .returned v' ∧ ys.Perm xs ∧ ys.Pairwise (fun a b => a.a ≤ b.a) ∧ Own w0 w' (spRow v' (mergeL ys) :: L.set j (spRow v ys))) := by
  refine calls_J (args := [v, .func (.func 218) #[] #[], .func (.func 219) #[] #[]]) Try.func217 rfl Try.ntmps217 rfl ?_
  have hjl : j < L.length := (List.getElem?_eq_some_iff.1 hj).1
  obtain ⟨a0, c0, rfl⟩ := H.row_slice hj
  ((repeat refine JC.seq ?_); refine JC.region ?_)
  refine JL.pure rfl rfl ?_
  refine JL.nil ?_
  ((repeat refine Ex.normal_block ?_); refine Ex.next ?_)
  ((repeat refine JC.seq ?_); refine JC.region ?_)
  refine JL.pure rfl rfl ?_
  refine JL.pure rfl rfl ?_
  refine JL.call fb275 rfl rfl (sort_c H hj hx hn) ?_
  rintro _ w1 ⟨rfl, ys, hperm, hsort, H⟩
  refine ⟨_, rfl, ?_⟩
  have hylen := hperm.length_eq
  have hjy : (L.set j (spRow (.slice a0 xs.length c0) ys))[j]? = some (spRow (.slice a0 xs.length c0) ys) := List.getElem?_set_self hjl
  generalize hL1 : L.set j (spRow (.slice a0 xs.length c0) ys) = L1 at *
  
  refine JL.nil ?_
  ((repeat refine Ex.normal_block ?_); refine Ex.next ?_)
  ((repeat refine JC.seq ?_); refine JC.region ?_)
  refine JL.pure rfl rfl ?_
  refine JL.nil ?_
  ((repeat refine Ex.normal_block ?_); refine Ex.next ?_)
  ((repeat refine JC.seq ?_); refine JC.region ?_)
  refine JL.pure rfl rfl ?_
  refine JL.len rfl Try.underlying193 rfl ?_
  refine JL.pure rfl rfl ?_
  refine JL.nil ?_
  ((repeat refine Ex.normal_block ?_); refine Ex.next ?_)
  ((repeat refine JC.seq ?_); refine JC.block ?_)
  ((repeat refine JC.seq ?_); refine JC.loop (ι := Nat × Value) (fun x => [(2, .func (.func 219) #[] #[]), (16, .slice a0 xs.length c0), (17, .int .i64 xs.length), (18, .int .i64 x.1), (7, x.2)])
    (fun x wr => x.1 ≤ ys.length ∧ Own w0 wr (spRow x.2 (mergeL (ys.take x.1)) :: L1)) (fun x => ys.length - x.1) (0, .slice none 0 0) ?_ ?_ ?_)
  · exact ⟨rfl, rfl, rfl, rfl, rfl, trivial⟩
  · exact ⟨Nat.zero_le _, H.nilRow 306 2⟩
  · rintro ⟨k, ov⟩ wr ⟨hk, H⟩
    simp only at hk H
    obtain ⟨oa, oc, rfl⟩ := H.row_slice (j := 0) rfl
    have hol : (mergeL (ys.take k)).length ≤ 1000000000000 := Nat.le_trans (merge_len (ys.take k) []) (by simp; omega)
    generalize hout : mergeL (ys.take k) = out at H
    rw [hout] at hol
    ((repeat refine JC.seq ?_); refine JC.region ?_)
    refine JL.pure rfl rfl ?_
    refine JL.nil ?_
    ((repeat refine Ex.normal_block ?_); refine Ex.next ?_)
    ((repeat refine JC.seq ?_); refine JC.cond rfl ?_ ?_)
    · intro h19
      (try simp only [Bool.not_eq_true', Bool.not_eq_false', decide_eq_true_eq, decide_eq_false_iff_not] at h19)
      have h19 : k < ys.length := by omega
      have hx : ys[k]? = some ys[k] := by simp [h19]
      obtain ⟨g, c, hg, _, _, _⟩ := H.rowAt (j := j + 1) (e := 306) (sz := 2) (enc := Span.cs) (fun _ => rfl) hjy hx
      simp only [Value.slice.injEq] at hg
      obtain ⟨rfl, _, rfl⟩ := hg
      ((repeat refine JC.seq ?_); refine JC.skip ?_)
      ((repeat refine Ex.normal_block ?_); refine Ex.next ?_)
      ((repeat refine JC.seq ?_); refine JC.block ?_)
      ((repeat refine JC.seq ?_); refine JC.region ?_)
      refine JL.indexS k rfl rfl Try.underlying193 sh306 rfl (by omega) rfl ?_
      refine JL.load rfl sh306 (H.rowLd (j := j + 1) (e := 306) (sz := 2) (enc := Span.cs) (fun _ => rfl) hjy hx) rfl ?_
      refine JL.alloc H z306 rfl ?_
      intro b9 w2 H
      refine JL.storeB 0 H rfl rfl sh306 rfl rfl rfl rfl rfl ?_
      intro w3 H
      refine JL.nil ?_
      ((repeat refine Ex.normal_block ?_); refine Ex.next ?_)
      ((repeat refine JC.seq ?_); refine JC.region ?_)
      refine JL.pure rfl rfl ?_
      refine JL.len rfl Try.underlying193 rfl ?_
      refine JL.pure rfl rfl ?_
      refine JL.nil ?_
      ((repeat refine Ex.normal_block ?_); refine Ex.next ?_)
      ((repeat refine JC.seq ?_); refine JC.region ?_)
      refine JL.pure rfl rfl ?_
      refine JL.pure rfl rfl ?_
      refine JL.nil ?_
      ((repeat refine Ex.normal_block ?_); refine Ex.next ?_)
      ((repeat refine JC.seq ?_); refine JC.cond rfl ?_ ?_)
      · intro h25
        (try simp only [Bool.not_eq_true', Bool.not_eq_false', decide_eq_true_eq, decide_eq_false_iff_not] at h25)
        have hpos : 0 < out.length := by omega
        have hlast : out[out.length - 1]? = some out[out.length - 1] := by simp [hpos]
        obtain ⟨g2, c2, hg2, _, _, _⟩ := H.rowAt (j := 1) (e := 306) (sz := 2) (enc := Span.cs) (fun _ => rfl) rfl hlast
        simp only [Value.slice.injEq] at hg2
        obtain ⟨rfl, _, rfl⟩ := hg2
        ((repeat refine JC.seq ?_); refine JC.draw 14 H mixed (by kernel_rfl) rfl ?_)
        refine JD.pure rfl rfl ?_
        refine JD.pure rfl rfl ?_
        refine JD.pure rfl rfl ?_
        refine JD.arith rfl (by unfold In64; omega) rfl ?_
        refine JD.indexS (out.length - 1) rfl rfl Try.underlying193 sh306 (by omega) (by omega) rfl ?_
        refine JD.load rfl sh306 (fun w hw => hw.rowLd (j := 1) (e := 306) (sz := 2) (enc := Span.cs) (fun _ => rfl) rfl hlast) rfl ?_
        refine JD.loadB 0 rfl sh306 rfl rfl rfl ?_
        refine JD.callv rfl fb219 rfl rfl (fun w hw => join219 _ _ _) ?_
        refine JD.pure rfl rfl ?_
        refine JD.pure rfl rfl ?_
        refine JD.pure rfl rfl ?_
        refine JD.allocS 12 (.tmp 35) z306 rfl rfl ?_
        refine JD.storeF rfl rfl rfl sh306 rfl rfl rfl ?_
        refine JD.pure rfl rfl ?_
        refine JD.nil ?_
        intro w4 v11 H
        obtain ⟨b11, rfl, H⟩ := H.ptr (j := 0) rfl
        show JL _ _ _ _ _ _ _
        refine JL.nil ?_
        ((repeat refine Ex.normal_block ?_); refine Ex.next ?_)
        ((repeat refine JC.seq ?_); refine JC.region ?_)
        refine JL.pure rfl rfl ?_
        refine JL.nil ?_
        ((repeat refine Ex.normal_block ?_); refine Ex.next ?_)
        ((repeat refine JC.seq ?_); refine JC.cond rfl ?_ ?_)
        · intro h37
          (try simp only [Bool.not_eq_true', Bool.not_eq_false', decide_eq_true_eq, decide_eq_false_iff_not] at h37)
          
          ((repeat refine JC.seq ?_); refine JC.region ?_)
          refine JL.pure rfl rfl ?_
          refine JL.pure rfl rfl ?_
          refine JL.arith rfl (by unfold In64; omega) rfl ?_
          refine JL.loadB 0 H rfl sh306 rfl rfl rfl ?_
          refine JL.indexS (out.length - 1) rfl rfl Try.underlying193 sh306 (by omega) (by omega) rfl ?_
          refine JL.storeRow (e := 306) (sz := 2) (enc := Span.cs) 2 H (fun _ => rfl) rfl (⟨out[out.length - 1].a, max out[out.length - 1].b ys[k].b⟩ : Span) rfl rfl sh306 rfl rfl (by omega) ?_
          intro w5 H
          refine JL.nil ?_
          ((repeat refine Ex.normal_block ?_); refine Ex.next ?_)
          ((repeat refine JC.seq ?_); refine JC.exit ?_)
          (repeat (first | refine Ex.exit_then ?_ | refine Ex.exit_miss (by decide) ?_))
          refine Ex.exit_hit ?_
          ((repeat refine Ex.normal_block ?_); refine Ex.next ?_)
          ((repeat refine JC.seq ?_); refine JC.region ?_)
          refine JL.arith rfl (by unfold In64; omega) rfl ?_
          refine JL.pure rfl rfl ?_
          refine JL.nil ?_
          (repeat refine Ex.normal_block ?_)
          have H := H.drop 0
          have H := H.drop 0
          refine Ex.again (k + 1, _) ⟨rfl, rfl, rfl, rfl, rfl, trivial⟩ ⟨h19, ?_⟩ (by simp; omega)
          rw [merge_take h19, hout, mstep_join hlast h37]
          exact H
        · intro h37
          (try simp only [Bool.not_eq_true', Bool.not_eq_false', decide_eq_true_eq, decide_eq_false_iff_not] at h37)
          have hno : ∀ l, out[out.length - 1]? = some l → ¬ ys[k].a ≤ l.b := by
            intro l hl
            rw [hlast] at hl
            cases hl
            exact h37
          ((repeat refine JC.seq ?_); refine JC.skip ?_)
          ((repeat refine Ex.normal_block ?_); refine Ex.next ?_)
          ((repeat refine JC.seq ?_); refine JC.region ?_)
          refine JL.pure rfl rfl ?_
          refine JL.loadB 1 H rfl sh306 rfl rfl rfl ?_
          refine JL.buildSlice H Try.underlying193 sh306 z306 rfl rfl rfl rfl rfl ?_
          intro b45 w6 H
          refine JL.append1 (news := ys[k].cs) 3 0 H Try.underlying193 ap306 rfl rfl rfl rfl rfl rfl (by omega) (by omega) rfl ?_
          intro ov' w7 H
          replace H : Own _ _ ((_ :: _ :: _ :: row 306 2 ov' (out.length + 1) (spCells out ++ ys[k].cs) :: L1)) := H
          rw [show row 306 2 ov' (out.length + 1) (spCells out ++ ys[k].cs) = spRow ov' (out ++ [ys[k]]) by unfold spRow; simp [spCells]] at H
          refine JL.pure rfl rfl ?_
          refine JL.nil ?_
          ((repeat refine Ex.normal_block ?_); refine Ex.next ?_)
          ((repeat refine JC.seq ?_); refine JC.region ?_)
          refine JL.arith rfl (by unfold In64; omega) rfl ?_
          refine JL.pure rfl rfl ?_
          refine JL.nil ?_
          (repeat refine Ex.normal_block ?_)
          have H := H.drop 0
          have H := H.drop 0
          have H := H.drop 0
          refine Ex.again (k + 1, _) ⟨rfl, rfl, rfl, rfl, rfl, trivial⟩ ⟨h19, ?_⟩ (by simp; omega)
          rw [merge_take h19, hout, mstep_app hno]
          exact H
      · intro h25
        (try simp only [Bool.not_eq_true', Bool.not_eq_false', decide_eq_true_eq, decide_eq_false_iff_not] at h25)
        have hno : ∀ l, out[out.length - 1]? = some l → ¬ ys[k].a ≤ l.b := by
          intro l hl
          have := (List.getElem?_eq_some_iff.1 hl).1
          omega
        ((repeat refine JC.seq ?_); refine JC.skip ?_)
        ((repeat refine Ex.normal_block ?_); refine Ex.next ?_)
        ((repeat refine JC.seq ?_); refine JC.region ?_)
        refine JL.pure rfl rfl ?_
        refine JL.loadB 0 H rfl sh306 rfl rfl rfl ?_
        refine JL.buildSlice H Try.underlying193 sh306 z306 rfl rfl rfl rfl rfl ?_
        intro b45_7 w8 H
        refine JL.append1 (news := ys[k].cs) 2 0 H Try.underlying193 ap306 rfl rfl rfl rfl rfl rfl (by omega) (by omega) rfl ?_
        intro ov' w9 H
        replace H : Own _ _ ((_ :: _ ::  row 306 2 ov' (out.length + 1) (spCells out ++ ys[k].cs) :: L1)) := H
        rw [show row 306 2 ov' (out.length + 1) (spCells out ++ ys[k].cs) = spRow ov' (out ++ [ys[k]]) by unfold spRow; simp [spCells]] at H
        refine JL.pure rfl rfl ?_
        refine JL.nil ?_
        ((repeat refine Ex.normal_block ?_); refine Ex.next ?_)
        ((repeat refine JC.seq ?_); refine JC.region ?_)
        refine JL.arith rfl (by unfold In64; omega) rfl ?_
        refine JL.pure rfl rfl ?_
        refine JL.nil ?_
        (repeat refine Ex.normal_block ?_)
        have H := H.drop 0
        have H := H.drop 0
        refine Ex.again (k + 1, _) ⟨rfl, rfl, rfl, rfl, rfl, trivial⟩ ⟨h19, ?_⟩ (by simp; omega)
        rw [merge_take h19, hout, mstep_app hno]
        exact H
    · intro h19
      (try simp only [Bool.not_eq_true', Bool.not_eq_false', decide_eq_true_eq, decide_eq_false_iff_not] at h19)
      
      ((repeat refine JC.seq ?_); refine JC.exit ?_)
      (repeat (first | refine Ex.exit_then ?_ | refine Ex.exit_miss (by decide) ?_))
      refine Ex.exit_hit ?_
      ((repeat refine Ex.normal_block ?_); refine Ex.next ?_)
      ((repeat refine JC.seq ?_); refine JC.region ?_)
      refine JL.pure rfl rfl ?_
      refine JL.pure rfl rfl ?_
      refine JL.nil ?_
      ((repeat refine Ex.normal_block ?_); refine Ex.next ?_)
      ((repeat refine JC.seq ?_); refine JC.ret ?_)
      (repeat (first | refine Ex.ret_then ?_ | refine Ex.ret_block ?_))
      refine Ex.ret1 rfl (.tmp rfl) ⟨_, ys, rfl, hperm, hsort, ?_⟩
      have : k = ys.length := by omega
      subst this
      simp at hout
      rw [hL1, hout]
      exact H
end Go.J

namespace Go.J
set_option linter.unusedSimpArgs false
set_option linter.unusedVariables false
/-! plain: spans of a row, in order -/
def spCov (l : List Span) (x : Int) : Prop := ∃ s ∈ l, s.a ≤ x ∧ x < s.b
def SpSep (l : List Span) : Prop := l.Pairwise (fun s t => s.b < t.a) ∧ ∀ s ∈ l, s.a < s.b
theorem spCov_append {l m : List Span} {x : Int} : spCov (l ++ m) x ↔ spCov l x ∨ spCov m x := by
  unfold spCov
  simp only [List.mem_append]
  constructor
  · rintro ⟨s, h | h, h2⟩
    · exact .inl ⟨s, h, h2⟩
    · exact .inr ⟨s, h, h2⟩
  · rintro (⟨s, h, h2⟩ | ⟨s, h, h2⟩)
    · exact ⟨s, .inl h, h2⟩
    · exact ⟨s, .inr h, h2⟩
theorem spCov_one {s : Span} {x : Int} : spCov [s] x ↔ s.a ≤ x ∧ x < s.b := by simp [spCov]
theorem spCov_perm {l m : List Span} (h : l.Perm m) {x : Int} : spCov l x ↔ spCov m x := by
  unfold spCov
  constructor
  · rintro ⟨s, h1, h2⟩; exact ⟨s, h.mem_iff.1 h1, h2⟩
  · rintro ⟨s, h1, h2⟩; exact ⟨s, h.mem_iff.2 h1, h2⟩
theorem mstep_ok {out : List Span} {x : Span} (hs : SpSep out) (hx : x.a < x.b) (hl : ∀ l, out.getLast? = some l → l.a ≤ x.a) :
    SpSep (mstep out x) ∧ (∀ y, spCov (mstep out x) y ↔ spCov out y ∨ (x.a ≤ y ∧ y < x.b)) ∧ ∀ l, (mstep out x).getLast? = some l → l.a ≤ x.a := by
  rcases List.eq_nil_or_concat out with rfl | ⟨init, l, rfl⟩
  · have : mstep [] x = [x] := rfl
    rw [this]
    refine ⟨⟨by simp, by simpa using hx⟩, fun y => by simp [spCov], fun l hl => ?_⟩
    simp at hl
    subst hl
    omega
  · have hla : l.a ≤ x.a := hl l (by simp)
    have hsep := hs.1
    rw [List.concat_eq_append, List.pairwise_append] at hsep
    have hlb : l.a < l.b := hs.2 l (by simp)
    have hinit : ∀ s ∈ init, s.b < l.a := fun s h => hsep.2.2 s h l (by simp)
    have hm : mstep (init.concat l) x = if x.a ≤ l.b then init ++ [⟨l.a, max l.b x.b⟩] else init ++ [l] ++ [x] := by
      unfold mstep
      simp
    rw [hm]
    have hne : ∀ s ∈ init, s.a < s.b := fun s h => hs.2 s (by simp [h])
    split
    · rename_i hj
      refine ⟨⟨?_, ?_⟩, fun y => ?_, fun l' hl' => ?_⟩
      · rw [List.pairwise_append]
        exact ⟨hsep.1, by simp, fun s h t ht => by simp at ht; subst ht; exact hinit s h⟩
      · intro s h
        simp at h
        rcases h with h | rfl
        · exact hne s h
        · simp only; omega
      · rw [List.concat_eq_append, spCov_append, spCov_append, spCov_one, spCov_one]
        simp only
        constructor
        · rintro (h | h)
          · exact .inl (.inl h)
          · by_cases hy : y < l.b
            · exact .inl (.inr ⟨h.1, hy⟩)
            · exact .inr (by omega)
        · rintro ((h | h) | h)
          · exact .inl h
          · exact .inr (by omega)
          · exact .inr (by omega)
      · simp at hl'
        subst hl'
        exact hla
    · rename_i hj
      refine ⟨⟨?_, ?_⟩, fun y => ?_, fun l' hl' => ?_⟩
      · rw [List.pairwise_append]
        refine ⟨?_, by simp, fun s h t ht => ?_⟩
        · rw [List.pairwise_append]; exact hsep
        · simp at ht
          subst ht
          simp at h
          rcases h with h | rfl
          · have := hinit s h; omega
          · omega
      · intro s h
        simp at h
        rcases h with h | rfl | rfl
        · exact hne s h
        · exact hlb
        · exact hx
      · rw [List.concat_eq_append, spCov_append, spCov_one]
      · simp at hl'
        subst hl'
        omega
theorem merge_ok : ∀ (ys out : List Span), SpSep out → (∀ s ∈ ys, s.a < s.b) → ys.Pairwise (fun s t => s.a ≤ t.a) → (∀ l, out.getLast? = some l → ∀ s ∈ ys, l.a ≤ s.a) →
    SpSep (ys.foldl mstep out) ∧ ∀ y, spCov (ys.foldl mstep out) y ↔ spCov out y ∨ spCov ys y := by
  intro ys
  induction ys with
  | nil => intro out h _ _ _; exact ⟨h, fun y => by simp [spCov]⟩
  | cons x ys ih =>
    intro out hs hne hp hl
    obtain ⟨h1, h2, h3⟩ := mstep_ok hs (hne x List.mem_cons_self) (fun l h => hl l h x List.mem_cons_self)
    rw [List.pairwise_cons] at hp
    obtain ⟨h4, h5⟩ := ih (mstep out x) h1 (fun s h => hne s (List.mem_cons_of_mem _ h)) hp.2 (fun l h s hs' => by
      have := h3 l h
      have := hp.1 s hs'
      omega)
    refine ⟨h4, fun y => ?_⟩
    rw [List.foldl_cons, h5 y, h2 y, show x :: ys = [x] ++ ys from rfl, spCov_append, spCov_one, or_assoc]
theorem sep_unique : ∀ (R R' : List Span), SpSep R → SpSep R' → (∀ x, spCov R x ↔ spCov R' x) → R = R' := by
  intro R
  induction R with
  | nil =>
    intro R' _ h' hc
    cases R' with
    | nil => rfl
    | cons r rs =>
      exfalso
      have : spCov (r :: rs) r.a := ⟨r, List.mem_cons_self, by omega, h'.2 r List.mem_cons_self⟩
      obtain ⟨s, hs, _⟩ := (hc r.a).2 this
      cases hs
  | cons r rs ih =>
    intro R' h h' hc
    cases R' with
    | nil =>
      exfalso
      have : spCov (r :: rs) r.a := ⟨r, List.mem_cons_self, by omega, h.2 r List.mem_cons_self⟩
      obtain ⟨s, hs, _⟩ := (hc r.a).1 this
      cases hs
    | cons r' rs' =>
      have low : ∀ {q : Span} {qs : List Span}, SpSep (q :: qs) → ∀ {x}, spCov qs x → q.b < x := by
        rintro q qs hq x ⟨s, hs, h1, h2⟩
        have := (List.pairwise_cons.1 hq.1).1 s hs
        omega
      have split : ∀ {q : Span} {qs : List Span} {x : Int}, spCov (q :: qs) x ↔ (q.a ≤ x ∧ x < q.b) ∨ spCov qs x := by
        intro q qs x
        rw [show q :: qs = [q] ++ qs from rfl, spCov_append, spCov_one]
      have hr := h.2 r List.mem_cons_self
      have hr' := h'.2 r' List.mem_cons_self
      have ha : r.a = r'.a := by
        have h1 := split.1 ((hc r.a).1 (split.2 (.inl ⟨by omega, hr⟩)))
        have h2 := split.1 ((hc r'.a).2 (split.2 (.inl ⟨by omega, hr'⟩)))
        have h3 : r'.a ≤ r.a := by
          rcases h1 with h1 | h1
          · exact h1.1
          · have := low h' h1; omega
        have h4 : r.a ≤ r'.a := by
          rcases h2 with h2 | h2
          · exact h2.1
          · have := low h h2; omega
        omega
      have hb : r.b = r'.b := by
        rcases Int.lt_trichotomy r.b r'.b with hlt | heq | hgt
        · exfalso
          rcases split.1 ((hc r.b).2 (split.2 (.inl ⟨by omega, hlt⟩))) with h1 | h1
          · omega
          · have := low h h1; omega
        · exact heq
        · exfalso
          rcases split.1 ((hc r'.b).1 (split.2 (.inl ⟨by omega, hgt⟩))) with h1 | h1
          · omega
          · have := low h' h1; omega
      have hrr : r = r' := by
        cases r; cases r'; simp_all
      subst hrr
      congr 1
      refine ih rs' ⟨(List.pairwise_cons.1 h.1).2, fun s hs => h.2 s (List.mem_cons_of_mem _ hs)⟩ ⟨(List.pairwise_cons.1 h'.1).2, fun s hs => h'.2 s (List.mem_cons_of_mem _ hs)⟩ fun x => ?_
      constructor
      · intro hx
        rcases split.1 ((hc x).1 (split.2 (.inr hx))) with h1 | h1
        · have := low h hx; omega
        · exact h1
      · intro hx
        rcases split.1 ((hc x).2 (split.2 (.inr hx))) with h1 | h1
        · have := low h' hx; omega
        · exact h1
def sins (x : Span) : List Span → List Span
  | [] => [x]
  | y :: r => if x.a ≤ y.a then x :: y :: r else y :: sins x r
def ssort : List Span → List Span
  | [] => []
  | x :: r => sins x (ssort r)
theorem sins_perm (x : Span) : ∀ l, (sins x l).Perm (x :: l) := by
  intro l
  induction l with
  | nil => exact List.Perm.refl _
  | cons y r ih =>
    unfold sins
    split
    · exact List.Perm.refl _
    · exact (ih.cons y).trans (List.Perm.swap _ _ _)
theorem ssort_perm : ∀ l, (ssort l).Perm l := by
  intro l
  induction l with
  | nil => exact List.Perm.refl _
  | cons x r ih => exact (sins_perm x _).trans (ih.cons x)
theorem sins_sorted (x : Span) : ∀ l : List Span, l.Pairwise (fun s t => s.a ≤ t.a) → (sins x l).Pairwise (fun s t => s.a ≤ t.a) := by
  intro l
  induction l with
  | nil => intro _; simp [sins]
  | cons y r ih =>
    intro h
    rw [List.pairwise_cons] at h
    unfold sins
    split
    · rename_i hxy
      rw [List.pairwise_cons]
      refine ⟨fun t ht => ?_, List.pairwise_cons.2 h⟩
      cases ht with
      | head => exact hxy
      | tail _ ht => have := h.1 t ht; omega
    · rename_i hxy
      rw [List.pairwise_cons]
      refine ⟨fun t ht => ?_, ih h.2⟩
      rcases List.mem_cons.1 ((sins_perm x r).mem_iff.1 ht) with rfl | ht
      · omega
      · exact h.1 t ht
theorem ssort_sorted : ∀ l, (ssort l).Pairwise (fun s t => s.a ≤ t.a) := by
  intro l
  induction l with
  | nil => exact List.Pairwise.nil
  | cons x r ih => exact sins_sorted x _ ih
/-- the spans of a row, in order, none of which touch -/
def norm (l : List Span) : List Span := mergeL (ssort l)
theorem norm_ok {l : List Span} (h : ∀ s ∈ l, s.a < s.b) : SpSep (norm l) ∧ ∀ x, spCov (norm l) x ↔ spCov l x := by
  have hp := ssort_perm l
  obtain ⟨h1, h2⟩ := merge_ok (ssort l) [] ⟨List.Pairwise.nil, by simp⟩ (fun s hs => h s (hp.mem_iff.1 hs)) (ssort_sorted l) (by simp)
  refine ⟨h1, fun x => ?_⟩
  rw [show norm l = (ssort l).foldl mstep [] from rfl, h2 x, spCov_perm hp]
  simp [spCov]
theorem merge_norm {ys l : List Span} (hp : ys.Perm l) (hs : ys.Pairwise (fun s t => s.a ≤ t.a)) (h : ∀ s ∈ l, s.a < s.b) : mergeL ys = norm l := by
  obtain ⟨h1, h2⟩ := merge_ok ys [] ⟨List.Pairwise.nil, by simp⟩ (fun s hs => h s (hp.mem_iff.1 hs)) hs (by simp)
  obtain ⟨h3, h4⟩ := norm_ok h
  refine sep_unique _ _ h1 h3 fun x => ?_
  rw [h4 x, show mergeL ys = ys.foldl mstep [] from rfl, h2 x, spCov_perm hp]
  simp [spCov]
end Go.J

namespace Go.J
open Go.RowKit Go.Proofs
set_option maxRecDepth 8000
set_option linter.unusedSimpArgs false
set_option linter.unusedVariables false
def Run.cs (r : Run) : List Value := [.int .i64 r.Y, .int .i64 r.From, .int .i64 r.To]
def rowR (T : Tab) (j : Nat) : List Run := (norm (T.getD j [])).map fun s => ⟨j, s.a, s.b⟩
def outR (T : Tab) (y : Nat) : List Run := (List.range y).flatMap (rowR T)
/-- a table's region -/
def regR (T : Tab) : List Run := outR T 256
theorem outR_succ (T : Tab) (y : Nat) : outR T (y + 1) = outR T y ++ rowR T y := by simp [outR, List.range_succ]
theorem norm_len (l : List Span) : (norm l).length ≤ l.length := by
  have := merge_len (ssort l) []
  rw [(ssort_perm l).length_eq] at this
  simpa [norm, mergeL] using this
theorem outR_len {T : Tab} {b : Nat} (hT : ∀ l ∈ T, l.length ≤ b) : ∀ y, (outR T y).length ≤ y * b := by
  intro y
  induction y with
  | zero => simp [outR]
  | succ y ih =>
    rw [outR_succ, List.length_append, Nat.add_mul, Nat.one_mul]
    have : (rowR T y).length ≤ b := by
      unfold rowR
      rw [List.length_map]
      refine Nat.le_trans (norm_len _) ?_
      rcases Nat.lt_or_ge y T.length with h | h
      · rw [show T.getD y [] = T[y] by simp [List.getD, h]]
        exact hT _ (List.getElem_mem h)
      · rw [show T.getD y [] = [] by simp [List.getD, h]]
        simp
    omega
def runRow (v : Value) (l : List Run) : HP := trow 140 3 Run.cs v l
theorem region_c {w0 w : World} {L : List HP} {β : Nat} {T : Tab} (H : Own w0 w (tbl β T :: L)) (hT : ∀ l ∈ T, l.length ≤ 1000000000)
    (hne : ∀ l ∈ T, ∀ s ∈ l, s.a < s.b ∧ 0 ≤ s.a ∧ s.a ≤ 1000000) :
    Calls Try.prog 131 #[.pointer (some ⟨β, 0, none⟩)] w
      (fun e w' => ((regR T).length > 8192 ∧ e = .returned (.tuple #[.slice none 0 0, .int .i64 3]) ∧ Own w0 w' L) ∨
        ((regR T).length ≤ 8192 ∧ ∃ rv, e = .returned (.tuple #[rv, .int .i64 0]) ∧ Own w0 w' (runRow rv (regR T) :: L))) := by
  refine calls_J (args := [.pointer (some ⟨β, 0, none⟩)]) Try.func131 rfl Try.ntmps131 rfl ?_
  obtain ⟨vs, hvs, hTl, H⟩ := H.openT
  ((repeat refine JC.seq ?_); refine JC.region ?_)
  refine JL.pure rfl rfl ?_
  refine JL.pure rfl rfl ?_
  refine JL.nil ?_
  ((repeat refine Ex.normal_block ?_); refine Ex.next ?_)
  ((repeat refine JC.seq ?_); refine JC.region ?_)
  refine JL.pure rfl rfl ?_
  refine JL.nil ?_
  ((repeat refine Ex.normal_block ?_); refine Ex.next ?_)
  ((repeat refine JC.seq ?_); refine JC.region ?_)
  refine JL.pure rfl rfl ?_
  refine JL.nilCheck rfl rfl ?_
  refine JL.pure rfl rfl ?_
  refine JL.nil ?_
  ((repeat refine Ex.normal_block ?_); refine Ex.next ?_)
  ((repeat refine JC.seq ?_); refine JC.block ?_)
  ((repeat refine JC.seq ?_); refine JC.loop (ι := Nat × Value × Tab) (fun x => [(9, .pointer (some ⟨β, 0, none⟩)), (11, .int .i64 x.1), (4, x.2.1)])
    (fun x wr => x.1 ≤ 256 ∧ x.2.2.length = 256 ∧ (∀ j, x.1 ≤ j → x.2.2[j]? = T[j]?) ∧ Own w0 wr (runRow x.2.1 (outR T x.1) :: blk β (.cells ⟨vs⟩ 195 (0, 0)) :: (rowsL vs x.2.2 ++ L)))
    (fun x => 256 - x.1) (0, .slice none 0 0, T) ?_ ?_ ?_)
  · exact ⟨rfl, rfl, rfl, trivial⟩
  · exact ⟨Nat.zero_le _, hTl, fun _ _ => rfl, H.nilRow 140 3⟩
  · rintro ⟨y, ov, T'⟩ wr ⟨hy, hT'l, hTT, H⟩
    simp only at hy hT'l hTT H
    have hol := outR_len hT y
    ((repeat refine JC.seq ?_); refine JC.region ?_)
    refine JL.pure rfl rfl ?_
    refine JL.nil ?_
    ((repeat refine Ex.normal_block ?_); refine Ex.next ?_)
    ((repeat refine JC.seq ?_); refine JC.cond rfl ?_ ?_)
    · intro h12
      (try simp only [Bool.not_eq_true', Bool.not_eq_false', decide_eq_true_eq, decide_eq_false_iff_not] at h12)
      have h12 : y < 256 := by omega
      have hv : vs[y]? = some vs[y] := by simp [hvs, h12]
      have hxT : T'[y]? = some T'[y] := by simp [hT'l, h12]
      have hTy : T[y]? = some T'[y] := by rw [← hTT y (Nat.le_refl _)]; exact hxT
      have hmem : T'[y] ∈ T := List.mem_of_getElem? hTy
      have hrow : (rowsL vs T')[y]? = some (spRow vs[y] T'[y]) := rowsL_get hv hxT
      have hrl := rowsL_len hvs hT'l
      ((repeat refine JC.seq ?_); refine JC.skip ?_)
      ((repeat refine Ex.normal_block ?_); refine Ex.next ?_)
      ((repeat refine JC.seq ?_); refine JC.block ?_)
      ((repeat refine JC.seq ?_); refine JC.draw 6 H mixed (by kernel_rfl) rfl ?_)
      refine JD.pure rfl rfl ?_
      refine JD.nilCheck rfl rfl ?_
      refine JD.indexA y rfl rfl Try.underlying195 sh193 (by omega) h12 rfl ?_
      refine JD.load rfl sh193 (fun w hw => by simpa using LdAt.one (Own.get (i := 1) hw rfl).2 hv) rfl ?_
      refine JD.pure rfl rfl ?_
      refine JD.pure rfl rfl ?_
      refine JD.nil ?_
      intro w1 H
      show JL _ _ _ _ _ _ _
      refine JL.nil ?_
      ((repeat refine Ex.normal_block ?_); refine Ex.next ?_)
      ((repeat refine JC.seq ?_); refine JC.region ?_)
      refine JL.pure rfl rfl ?_
      refine JL.call fb217 rfl rfl (merged_c H (j := 2 + y) ((get_two (by omega)).trans hrow) (fun s hs => by have := (hne _ hmem s hs).2; omega) (by have := hT _ hmem; omega)) ?_
      rintro _ w2 ⟨mv, ys, rfl, hperm, hsort, H⟩
      refine ⟨_, rfl, ?_⟩
      rw [set_two (by omega), rowsL_set, List.set_getElem_self] at H
      have hml : (mergeL ys).map (fun s : Span => (⟨y, s.a, s.b⟩ : Run)) = rowR T y := by
        rw [merge_norm hperm hsort (fun s hs => (hne _ hmem s hs).1)]
        unfold rowR
        rw [show T.getD y [] = T'[y] by simp [List.getD, hTy]]
      have hmll : (mergeL ys).length ≤ 1000000000 := by
        rw [merge_norm hperm hsort (fun s hs => (hne _ hmem s hs).1)]
        exact Nat.le_trans (norm_len _) (hT _ hmem)
      obtain ⟨ma, mc, rfl⟩ := H.row_slice (j := 0) rfl
      refine JL.pure rfl rfl ?_
      refine JL.nil ?_
      ((repeat refine Ex.normal_block ?_); refine Ex.next ?_)
      ((repeat refine JC.seq ?_); refine JC.region ?_)
      refine JL.pure rfl rfl ?_
      refine JL.len rfl Try.underlying193 rfl ?_
      refine JL.pure rfl rfl ?_
      refine JL.nil ?_
      ((repeat refine Ex.normal_block ?_); refine Ex.next ?_)
      ((repeat refine JC.seq ?_); refine JC.block ?_)
      ((repeat refine JC.seq ?_); refine JC.loop (ι := Nat × Value) (fun x => [(9, .pointer (some ⟨β, 0, none⟩)), (11, .int .i64 y), (5, .int .i64 y), (4, x.2), (19, .slice ma (mergeL ys).length mc), (20, .int .i64 (mergeL ys).length), (21, .int .i64 x.1)])
        (fun x wr => x.1 ≤ (mergeL ys).length ∧ Own w0 wr (spRow (.slice ma (mergeL ys).length mc) (mergeL ys) :: runRow x.2 (outR T y ++ ((mergeL ys).take x.1).map (fun s : Span => (⟨y, s.a, s.b⟩ : Run))) :: blk β (.cells ⟨vs⟩ 195 (0, 0)) :: (rowsL vs (T'.set y ys) ++ L)))
        (fun x => (mergeL ys).length - x.1) (0, ov) ?_ ?_ ?_)
      · exact ⟨rfl, rfl, rfl, rfl, rfl, rfl, rfl, trivial⟩
      · exact ⟨Nat.zero_le _, by simpa using H⟩
      · rintro ⟨k, ov2⟩ wr ⟨hk, H⟩
        simp only at hk H
        ((repeat refine JC.seq ?_); refine JC.region ?_)
        refine JL.pure rfl rfl ?_
        refine JL.nil ?_
        ((repeat refine Ex.normal_block ?_); refine Ex.next ?_)
        ((repeat refine JC.seq ?_); refine JC.cond rfl ?_ ?_)
        · intro h22
          (try simp only [Bool.not_eq_true', Bool.not_eq_false', decide_eq_true_eq, decide_eq_false_iff_not] at h22)
          have h22 : k < (mergeL ys).length := by omega
          have hxm : (mergeL ys)[k]? = some (mergeL ys)[k] := by simp [h22]
          obtain ⟨g, c, hg, _, _, _⟩ := H.rowAt (j := 0) (e := 306) (sz := 2) (enc := Span.cs) (fun _ => rfl) rfl hxm
          simp only [Value.slice.injEq] at hg
          obtain ⟨rfl, _, rfl⟩ := hg
          ((repeat refine JC.seq ?_); refine JC.skip ?_)
          ((repeat refine Ex.normal_block ?_); refine Ex.next ?_)
          ((repeat refine JC.seq ?_); refine JC.block ?_)
          ((repeat refine JC.seq ?_); refine JC.region ?_)
          refine JL.indexS k rfl rfl Try.underlying193 sh306 rfl h22 rfl ?_
          refine JL.load rfl sh306 (H.rowLd (j := 0) (e := 306) (sz := 2) (enc := Span.cs) (fun _ => rfl) rfl hxm) rfl ?_
          refine JL.alloc H z306 rfl ?_
          intro b8 w3 H
          refine JL.storeB 0 H rfl rfl sh306 rfl rfl rfl rfl rfl ?_
          intro w4 H
          refine JL.nil ?_
          ((repeat refine Ex.normal_block ?_); refine Ex.next ?_)
          ((repeat refine JC.seq ?_); refine JC.region ?_)
          refine JL.pure rfl rfl ?_
          refine JL.pure rfl rfl ?_
          refine JL.fieldAddr rfl Try.underlying306 rfl sh3 rfl ?_
          refine JL.loadB 0 H rfl sh3 rfl rfl rfl ?_
          refine JL.fieldAddr rfl Try.underlying306 rfl sh3 rfl ?_
          refine JL.loadB 0 H rfl sh3 rfl rfl rfl ?_
          refine JL.build s140 rfl rfl ?_
          refine JL.buildSlice H Try.underlying50 sh140 z140 rfl rfl rfl rfl rfl ?_
          intro b32 w5 H
          refine JL.append1 (news := [.int .i64 y, .int .i64 (mergeL ys)[k].a, .int .i64 (mergeL ys)[k].b]) 3 0 H Try.underlying50 ap140 rfl rfl rfl rfl rfl rfl (by
            simp only [List.length_append, List.length_map, List.length_take]; omega) (by
            simp only [List.length_append, List.length_map, List.length_take]; omega) rfl ?_
          intro ov3 w6 H
          replace H := H.cast (L := _ :: _ :: _ :: runRow ov3 (outR T y ++ ((mergeL ys).take k).map (fun s : Span => (⟨y, s.a, s.b⟩ : Run)) ++ [⟨y, (mergeL ys)[k].a, (mergeL ys)[k].b⟩]) :: _) (by
            unfold runRow
            rw [← trow_snoc]
            rfl)
          refine JL.pure rfl rfl ?_
          refine JL.nil ?_
          ((repeat refine Ex.normal_block ?_); refine Ex.next ?_)
          ((repeat refine JC.seq ?_); refine JC.region ?_)
          refine JL.arith rfl (by unfold In64; omega) rfl ?_
          refine JL.pure rfl rfl ?_
          refine JL.nil ?_
          (repeat refine Ex.normal_block ?_)
          have H := (H.drop 0).drop 0
          refine Ex.again (k + 1, ov3) ⟨rfl, rfl, rfl, rfl, rfl, rfl, rfl, trivial⟩ ⟨h22, ?_⟩ (by simp; omega)
          simp only
          rw [List.take_succ_eq_append_getElem h22, List.map_append, ← List.append_assoc]
          exact H
        · intro h22
          (try simp only [Bool.not_eq_true', Bool.not_eq_false', decide_eq_true_eq, decide_eq_false_iff_not] at h22)
          
          ((repeat refine JC.seq ?_); refine JC.exit ?_)
          (repeat (first | refine Ex.exit_then ?_ | refine Ex.exit_miss (by decide) ?_))
          refine Ex.exit_hit ?_
          ((repeat refine Ex.normal_block ?_); refine Ex.next ?_)
          ((repeat refine JC.seq ?_); refine JC.region ?_)
          refine JL.arith rfl (by unfold In64; omega) rfl ?_
          refine JL.pure rfl rfl ?_
          refine JL.nil ?_
          (repeat refine Ex.normal_block ?_)
          refine Ex.again (y + 1, ov2, T'.set y ys) ⟨rfl, rfl, rfl, trivial⟩ ⟨h12, by simp [hT'l], fun j hj => ?_, ?_⟩ (by simp; omega)
          · simp only at hj ⊢
            rw [List.getElem?_set_ne (by omega)]
            exact hTT j (by omega)
          · simp only
            rw [outR_succ, ← hml]
            have : k = (mergeL ys).length := by omega
            subst this
            rw [List.take_length] at H
            exact H.drop 0
    · intro h12
      (try simp only [Bool.not_eq_true', Bool.not_eq_false', decide_eq_true_eq, decide_eq_false_iff_not] at h12)
      
      ((repeat refine JC.seq ?_); refine JC.exit ?_)
      (repeat (first | refine Ex.exit_then ?_ | refine Ex.exit_miss (by decide) ?_))
      refine Ex.exit_hit ?_
      ((repeat refine Ex.normal_block ?_); refine Ex.next ?_)
      ((repeat refine JC.seq ?_); refine JC.region ?_)
      have hy' : y = 256 := by omega
      subst hy'
      have H := (H.drop 1).perm List.perm_middle.symm
      have H := H.right
      obtain ⟨oa, oc, rfl⟩ := H.row_slice (j := 0) rfl
      refine JL.pure rfl rfl ?_
      refine JL.len rfl Try.underlying50 rfl ?_
      refine JL.pure rfl rfl ?_
      refine JL.nil ?_
      ((repeat refine Ex.normal_block ?_); refine Ex.next ?_)
      ((repeat refine JC.seq ?_); refine JC.cond rfl ?_ ?_)
      · intro h38
        (try simp only [Bool.not_eq_true', Bool.not_eq_false', decide_eq_true_eq, decide_eq_false_iff_not] at h38)
        ((repeat refine JC.seq ?_); refine JC.region ?_)
        refine JL.pure rfl rfl ?_
        refine JL.pure rfl rfl ?_
        refine JL.nil ?_
        ((repeat refine Ex.normal_block ?_); refine Ex.next ?_)
        ((repeat refine JC.seq ?_); refine JC.ret ?_)
        (repeat (first | refine Ex.ret_then ?_ | refine Ex.ret_block ?_))
        refine Ex.ret2 rfl (.tmp rfl) (.tmp rfl) (.inl ⟨?_, rfl, H.drop 0⟩)
        have : (8192 : Int) < ((outR T 256).length : Int) := h38
        unfold regR; omega
      · intro h38
        (try simp only [Bool.not_eq_true', Bool.not_eq_false', decide_eq_true_eq, decide_eq_false_iff_not] at h38)
        ((repeat refine JC.seq ?_); refine JC.skip ?_)
        ((repeat refine Ex.normal_block ?_); refine Ex.next ?_)
        ((repeat refine JC.seq ?_); refine JC.region ?_)
        refine JL.pure rfl rfl ?_
        refine JL.pure rfl rfl ?_
        refine JL.pure rfl rfl ?_
        refine JL.nil ?_
        ((repeat refine Ex.normal_block ?_); refine Ex.next ?_)
        ((repeat refine JC.seq ?_); refine JC.ret ?_)
        (repeat (first | refine Ex.ret_then ?_ | refine Ex.ret_block ?_))
        refine Ex.ret2 rfl (.tmp rfl) (.tmp rfl) (.inr ⟨?_, _, rfl, H⟩)
        have : ¬ (8192 : Int) < ((outR T 256).length : Int) := h38
        unfold regR; omega
end Go.J

namespace Go.J
open Go.RowKit Go.Proofs
set_option maxRecDepth 8000
set_option linter.unusedSimpArgs false
set_option linter.unusedVariables false
theorem checked1_c (g : Grid) (lv r : Value) (rs : List Run) (β off : Nat) (w : World) (hβ : β < w.heap.size) (hc : LdAt w β off (true, 4) (g.ev lv)) (hr : SlR w r rs) (hH : 1 ≤ g.H ∧ g.H ≤ 256) (hW : g.W ≤ 256) :
    Pur Try.prog 215 #[r, .pointer (some ⟨β, off, none⟩)] w (.bool (!rightB g.W g.H rs)) := by
  refine pur_J (args := [r, .pointer (some ⟨β, off, none⟩)]) Try.func215 rfl Try.ntmps215 rfl ?_
  have H := Own.start w
  ((repeat refine JC.seq ?_); refine JC.region ?_)
  refine JL.pure rfl rfl ?_
  refine JL.nil ?_
  ((repeat refine Ex.normal_block ?_); refine Ex.next ?_)
  ((repeat refine JC.seq ?_); refine JC.region ?_)
  refine JL.load rfl sh52 (hc.grow hβ H.below) rfl ?_
  refine JL.pure rfl rfl ?_
  refine JL.callP H fb216 rfl rfl (right_c _ _ _ _ _ rs _ (hr.grow H.below) hH hW) ?_
  intro w1 H _
  refine JL.pure rfl rfl ?_
  refine JL.pure rfl rfl ?_
  refine JL.nil ?_
  ((repeat refine Ex.normal_block ?_); refine Ex.next ?_)
  ((repeat refine JC.seq ?_); refine JC.ret ?_)
  (repeat (first | refine Ex.ret_then ?_ | refine Ex.ret_block ?_))
  refine Ex.ret1 rfl (.tmp rfl) ⟨rfl, H.below⟩
def checkedB (g : Grid) (l : List (List Run)) : Bool := g.ok && l.all (rightB g.W g.H)
theorem Grid.ok_b {g : Grid} (h : g.ok = true) : (1 ≤ g.W ∧ g.W ≤ 256) ∧ (1 ≤ g.H ∧ g.H ≤ 256) ∧ (1 ≤ g.S ∧ g.S ≤ 50000) ∧ rightB g.W g.H g.land = true := by
  unfold Grid.ok at h
  simp only [Bool.and_eq_true, decide_eq_true_eq] at h
  exact ⟨h.1.1.1, h.1.1.2, h.1.2, h.2⟩
theorem checked_c (g : Grid) (lv lsv : Value) (l : List (Value × List Run)) (w : World) (hl : SlR w lv g.land) (hs : Sl Prod.fst (false, 1) w lsv l) (hr : ∀ p ∈ l, SlR w p.1 p.2) :
    Pur Try.prog 129 #[g.ev lv, lsv] w (.int .i64 (if checkedB g (l.map Prod.snd) then 0 else 2)) := by
  refine pur_J (args := [g.ev lv, lsv]) Try.func129 rfl Try.ntmps129 rfl ?_
  have H := Own.start w
  ((repeat refine JC.seq ?_); refine JC.region ?_)
  refine JL.box H rfl rfl rfl ?_
  intro b2 w1 H
  refine JL.pure rfl rfl ?_
  refine JL.nil ?_
  ((repeat refine Ex.normal_block ?_); refine Ex.next ?_)
  ((repeat refine JC.seq ?_); refine JC.region ?_)
  refine JL.loadB 0 H rfl sh52 rfl rfl rfl ?_
  refine JL.callP H fb141 rfl rfl (checkGrid_c g lv _ (hl.grow H.below)) ?_
  intro w2 H _
  refine JL.pure rfl rfl ?_
  refine JL.nil ?_
  ((repeat refine Ex.normal_block ?_); refine Ex.next ?_)
  ((repeat refine JC.seq ?_); refine JC.region ?_)
  refine JL.pure rfl rfl ?_
  refine JL.pure rfl rfl ?_
  refine JL.nil ?_
  ((repeat refine Ex.normal_block ?_); refine Ex.next ?_)
  ((repeat refine JC.seq ?_); refine JC.cond rfl ?_ ?_)
  · intro h9
    (try simp only [Bool.not_eq_true', Bool.not_eq_false', decide_eq_true_eq, decide_eq_false_iff_not] at h9)
    have hok : g.ok = false := by
      cases hc : g.ok with
      | false => rfl
      | true => exfalso; rw [hc] at h9; simp at h9
    ((repeat refine JC.seq ?_); refine JC.region ?_)
    refine JL.pure rfl rfl ?_
    refine JL.pure rfl rfl ?_
    refine JL.nil ?_
    ((repeat refine Ex.normal_block ?_); refine Ex.next ?_)
    ((repeat refine JC.seq ?_); refine JC.ret ?_)
    (repeat (first | refine Ex.ret_then ?_ | refine Ex.ret_block ?_))
    refine Ex.ret1 rfl (.tmp rfl) ⟨?_, H.below⟩
    unfold checkedB; rw [hok]; simp
  · intro h9
    (try simp only [Bool.not_eq_true', Bool.not_eq_false', decide_eq_true_eq, decide_eq_false_iff_not] at h9)
    have hok : g.ok = true := by
      cases hc : g.ok with
      | true => rfl
      | false => exfalso; rw [hc] at h9; simp at h9
    obtain ⟨hgW, hgH, hgS, hgl⟩ := Grid.ok_b hok
    ((repeat refine JC.seq ?_); refine JC.skip ?_)
    ((repeat refine Ex.normal_block ?_); refine Ex.next ?_)
    ((repeat refine JC.seq ?_); refine JC.region ?_)
    refine JL.pure rfl rfl ?_
    refine JL.pure rfl rfl ?_
    have hg := H.get (i := 0) rfl
    have hlt : b2 < w2.heap.size := lt_of_block hg.2
    refine JL.callP H fb214 rfl rfl (contains_rows lsv l (fun p => !rightB g.W g.H p.2) 215 [.pointer (some ⟨b2, 0, none⟩)] _ fb215 (hs.grow H.below) (fun w' hb' p hp => checked1_c g lv p.1 p.2 b2 0 w' (Nat.lt_of_lt_of_le hlt hb'.size) ((LdAt.of_block hg.2 rfl).grow hlt hb') ((hr p hp).grow (by have h1 := H.below; exact h1.trans (hb'.mono h1.size))) hgH hgW.2)) ?_
    intro w3 H _
    refine JL.nil ?_
    ((repeat refine Ex.normal_block ?_); refine Ex.next ?_)
    ((repeat refine JC.seq ?_); refine JC.cond rfl ?_ ?_)
    · intro h13
      (try simp only [Bool.not_eq_true', Bool.not_eq_false', decide_eq_true_eq, decide_eq_false_iff_not] at h13)
      ((repeat refine JC.seq ?_); refine JC.region ?_)
      refine JL.pure rfl rfl ?_
      refine JL.nil ?_
      ((repeat refine Ex.normal_block ?_); refine Ex.next ?_)
      ((repeat refine JC.seq ?_); refine JC.ret ?_)
      (repeat (first | refine Ex.ret_then ?_ | refine Ex.ret_block ?_))
      refine Ex.ret1 rfl (.tmp rfl) ⟨?_, H.below⟩
      unfold checkedB
      rw [if_neg]
      simp only [hok, Bool.true_and, List.all_map, Bool.not_eq_true]
      rw [List.any_eq_not_all_not] at h13
      simpa using h13
    · intro h13
      (try simp only [Bool.not_eq_true', Bool.not_eq_false', decide_eq_true_eq, decide_eq_false_iff_not] at h13)
      ((repeat refine JC.seq ?_); refine JC.skip ?_)
      ((repeat refine Ex.normal_block ?_); refine Ex.next ?_)
      ((repeat refine JC.seq ?_); refine JC.region ?_)
      refine JL.pure rfl rfl ?_
      refine JL.nil ?_
      ((repeat refine Ex.normal_block ?_); refine Ex.next ?_)
      ((repeat refine JC.seq ?_); refine JC.ret ?_)
      (repeat (first | refine Ex.ret_then ?_ | refine Ex.ret_block ?_))
      refine Ex.ret1 rfl (.tmp rfl) ⟨?_, H.below⟩
      unfold checkedB
      rw [if_pos]
      simp only [hok, Bool.true_and, List.all_map]
      rw [List.any_eq_not_all_not] at h13
      simpa using h13
structure Push where
  Low : Spot
  High : Spot
deriving DecidableEq
def Push.ev (p : Push) : Value := .agg ⟨[.int .i64 p.Low.X, .int .i64 p.Low.Y, .int .i64 p.High.X, .int .i64 p.High.Y]⟩
def Push.ok (p : Push) : Bool := decide (-16777216 ≤ p.Low.X ∧ p.Low.X ≤ p.High.X) && decide (-16777216 ≤ p.Low.Y ∧ p.Low.Y ≤ p.High.Y) && decide (max p.High.X p.High.Y ≤ 16777216)
theorem pushed_c (p : Push) (w : World) : Pur Try.prog 132 #[p.ev] w (.bool p.ok) := by
  refine pur_J (args := [p.ev]) Try.func132 rfl Try.ntmps132 rfl ?_
  have H := Own.start w
  ((repeat refine JC.seq ?_); refine JC.region ?_)
  refine JL.box H rfl rfl rfl ?_
  intro b1 w1 H
  refine JL.pure rfl rfl ?_
  refine JL.nil ?_
  ((repeat refine Ex.normal_block ?_); refine Ex.next ?_)
  ((repeat refine JC.seq ?_); refine JC.region ?_)
  refine JL.fieldAddr rfl Try.underlying54 rfl sh23 rfl ?_
  refine JL.fieldAddr rfl Try.underlying23 rfl sh3 rfl ?_
  refine JL.loadB 0 H rfl sh3 rfl rfl rfl ?_
  refine JL.fieldAddr rfl Try.underlying54 rfl sh23 rfl ?_
  refine JL.fieldAddr rfl Try.underlying23 rfl sh3 rfl ?_
  refine JL.loadB 0 H rfl sh3 rfl rfl rfl ?_
  refine JL.callP H fb144 rfl rfl (within_c _ _ _ _) ?_
  intro w2 H _
  refine JL.pure rfl rfl ?_
  refine JL.cases 10 rfl ?_ ?_
  · intro h10
    (try simp only [Bool.not_eq_true', Bool.not_eq_false', decide_eq_true_eq, decide_eq_false_iff_not] at h10)
    refine JL.want rfl rfl ?_
    refine JL.fieldAddr rfl Try.underlying54 rfl sh23 rfl ?_
    refine JL.want rfl rfl ?_
    refine JL.fieldAddr rfl Try.underlying23 rfl sh3 rfl ?_
    refine JL.want rfl rfl ?_
    refine JL.loadB 0 H rfl sh3 rfl rfl rfl ?_
    refine JL.want rfl rfl ?_
    refine JL.fieldAddr rfl Try.underlying54 rfl sh23 rfl ?_
    refine JL.want rfl rfl ?_
    refine JL.fieldAddr rfl Try.underlying23 rfl sh3 rfl ?_
    refine JL.want rfl rfl ?_
    refine JL.loadB 0 H rfl sh3 rfl rfl rfl ?_
    refine JL.want rfl rfl ?_
    refine JL.callP H fb144 rfl rfl (within_c _ _ _ _) ?_
    intro w3 H _
    refine JL.pure rfl rfl ?_
    refine JL.pure rfl rfl ?_
    refine JL.cases 19 rfl ?_ ?_
    · intro h19
      (try simp only [Bool.not_eq_true', Bool.not_eq_false', decide_eq_true_eq, decide_eq_false_iff_not] at h19)
      refine JL.want rfl rfl ?_
      refine JL.fieldAddr rfl Try.underlying54 rfl sh23 rfl ?_
      refine JL.want rfl rfl ?_
      refine JL.fieldAddr rfl Try.underlying23 rfl sh3 rfl ?_
      refine JL.want rfl rfl ?_
      refine JL.loadB 0 H rfl sh3 rfl rfl rfl ?_
      refine JL.want rfl rfl ?_
      refine JL.fieldAddr rfl Try.underlying54 rfl sh23 rfl ?_
      refine JL.want rfl rfl ?_
      refine JL.fieldAddr rfl Try.underlying23 rfl sh3 rfl ?_
      refine JL.want rfl rfl ?_
      refine JL.loadB 0 H rfl sh3 rfl rfl rfl ?_
      refine JL.want rfl rfl ?_
      refine JL.pure rfl rfl ?_
      refine JL.want rfl rfl ?_
      refine JL.pure rfl rfl ?_
      refine JL.pure rfl rfl ?_
      refine JL.pure rfl rfl ?_
      refine JL.nil ?_
      ((repeat refine Ex.normal_block ?_); refine Ex.next ?_)
      ((repeat refine JC.seq ?_); refine JC.ret ?_)
      (repeat (first | refine Ex.ret_then ?_ | refine Ex.ret_block ?_))
      refine Ex.ret1 rfl (.tmp rfl) ⟨?_, H.below⟩
      unfold Push.ok
      simp [*]
    · intro h19
      (try simp only [Bool.not_eq_true', Bool.not_eq_false', decide_eq_true_eq, decide_eq_false_iff_not] at h19)
      refine JL.pass rfl rfl rfl rfl ?_
      refine JL.pass rfl rfl rfl rfl ?_
      refine JL.pass rfl rfl rfl rfl ?_
      refine JL.pass rfl rfl rfl rfl ?_
      refine JL.pass rfl rfl rfl rfl ?_
      refine JL.pass rfl rfl rfl rfl ?_
      refine JL.pass rfl rfl rfl rfl ?_
      refine JL.pass rfl rfl rfl rfl ?_
      refine JL.pure rfl rfl ?_
      refine JL.pure rfl rfl ?_
      refine JL.nil ?_
      ((repeat refine Ex.normal_block ?_); refine Ex.next ?_)
      ((repeat refine JC.seq ?_); refine JC.ret ?_)
      (repeat (first | refine Ex.ret_then ?_ | refine Ex.ret_block ?_))
      refine Ex.ret1 rfl (.tmp rfl) ⟨?_, H.below⟩
      unfold Push.ok
      simp [*]
  · intro h10
    (try simp only [Bool.not_eq_true', Bool.not_eq_false', decide_eq_true_eq, decide_eq_false_iff_not] at h10)
    refine JL.pass rfl rfl rfl rfl ?_
    refine JL.pass rfl rfl rfl rfl ?_
    refine JL.pass rfl rfl rfl rfl ?_
    refine JL.pass rfl rfl rfl rfl ?_
    refine JL.pass rfl rfl rfl rfl ?_
    refine JL.pass rfl rfl rfl rfl ?_
    refine JL.pass rfl rfl rfl rfl ?_
    refine JL.pure rfl rfl ?_
    refine JL.pure rfl rfl ?_
    refine JL.pass rfl rfl rfl rfl ?_
    refine JL.pass rfl rfl rfl rfl ?_
    refine JL.pass rfl rfl rfl rfl ?_
    refine JL.pass rfl rfl rfl rfl ?_
    refine JL.pass rfl rfl rfl rfl ?_
    refine JL.pass rfl rfl rfl rfl ?_
    refine JL.pass rfl rfl rfl rfl ?_
    refine JL.pass rfl rfl rfl rfl ?_
    refine JL.pure rfl rfl ?_
    refine JL.pure rfl rfl ?_
    refine JL.nil ?_
    ((repeat refine Ex.normal_block ?_); refine Ex.next ?_)
    ((repeat refine JC.seq ?_); refine JC.ret ?_)
    (repeat (first | refine Ex.ret_then ?_ | refine Ex.ret_block ?_))
    refine Ex.ret1 rfl (.tmp rfl) ⟨?_, H.below⟩
    unfold Push.ok
    simp [*]
theorem leads_c (g : Grid) (lv : Value) (low high : Int) (w : World) (hS : 1 ≤ g.S ∧ g.S ≤ 50000) (h1 : -100000000 ≤ low ∧ low ≤ 100000000) (h2 : -100000000 ≤ high ∧ high ≤ 100000000) :
    Pur Try.prog 133 #[g.ev lv, .int .i64 low, .int .i64 high] w (.tuple #[.int .i64 (low / g.S), .int .i64 ((g.S - 1 + high) / g.S)]) := by
  refine pur_J (args := [g.ev lv, .int .i64 low, .int .i64 high]) Try.func133 rfl Try.ntmps133 rfl ?_
  have H := Own.start w
  ((repeat refine JC.seq ?_); refine JC.region ?_)
  refine JL.box H rfl rfl rfl ?_
  intro b3 w1 H
  refine JL.pure rfl rfl ?_
  refine JL.pure rfl rfl ?_
  refine JL.nil ?_
  ((repeat refine Ex.normal_block ?_); refine Ex.next ?_)
  ((repeat refine JC.seq ?_); refine JC.draw 14 H mixed (by kernel_rfl) rfl ?_)
  refine JD.pure rfl rfl ?_
  refine JD.fieldAddr rfl Try.underlying52 rfl sh3 rfl ?_
  refine JD.loadB 0 rfl sh3 rfl rfl rfl ?_
  refine JD.call fb143 rfl rfl (fun w hw => floor_c _ _ w (by omega) (by omega) (by omega)) ?_
  refine JD.fieldAddr rfl Try.underlying52 rfl sh3 rfl ?_
  refine JD.loadB 0 rfl sh3 rfl rfl rfl ?_
  refine JD.arith rfl (by unfold In64; omega) rfl ?_
  refine JD.pure rfl rfl ?_
  refine JD.arith rfl (by unfold In64; omega) rfl ?_
  refine JD.fieldAddr rfl Try.underlying52 rfl sh3 rfl ?_
  refine JD.loadB 0 rfl sh3 rfl rfl rfl ?_
  refine JD.call fb143 rfl rfl (fun w hw => floor_c _ _ w (by omega) (by omega) (by omega)) ?_
  refine JD.pure rfl rfl ?_
  refine JD.pure rfl rfl ?_
  refine JD.nil ?_
  intro w2 H
  show JL _ _ _ _ _ _ _
  refine JL.nil ?_
  ((repeat refine Ex.normal_block ?_); refine Ex.next ?_)
  ((repeat refine JC.seq ?_); refine JC.ret ?_)
  (repeat (first | refine Ex.ret_then ?_ | refine Ex.ret_block ?_))
  refine Ex.ret2 rfl (.tmp rfl) (.tmp rfl) ⟨rfl, H.below⟩
end Go.J

namespace Go.J
set_option linter.unusedSimpArgs false
set_option linter.unusedVariables false
open Go.RowKit Go.Proofs
set_option maxRecDepth 8000
section
variable {P : Program} {N : Sz} {ops : Array Oper} {Q : Exit → Act → World → Prop} {rest : List Oper} {fr : Fr} {w w0 : World} {L : List HP}
  {d : Option Tmp} {ty : TypeId} {pos : String} {af : Array Edge}
theorem JL.buildA {t e : TypeId} {n sz : Nat} {b : Bool} {ps : Array (Nat × Operand)} {z cs : List Value} (hu : P.underlying t = some (.array n e)) (hs : tySh P e = some (b, sz)) (hz : tyZero P t = some z)
    (hc : fillK fr (fun i => some (i * sz, sz)) ps.toList z = some cs) (hd : Fr.fits N d = true) (k : JL P N ops Q rest (fr.put d (.agg ⟨cs⟩)) w) : JL P N ops Q (⟨d, .build t ps, ty, pos, af, none⟩ :: rest) fr w := by
  refine JL.val rfl hd (fun a H => ?_) k
  obtain ⟨zv, h1, h2⟩ := tyZero_run hz w
  have hf := fillK_eq H hc
  have e1 : (Array.map (fun (p : Nat × Operand) => (p.1, a.eval p.2)) ps).toList = ps.toList.map fun p => (p.1, a.eval p.2) := by simp
  simp only [execOp, Instr.build]
  rw [Sem.run_bind, Sem.run_bind, h1]
  simp only [Result.andThen]
  rw [Sem.run_bind, run_underlying hu]
  simp only [Result.andThen]
  rw [Sem.run_bind, (tySh_agg hs w).2]
  simp only [Result.andThen, h2, e1]
  have hf' : Instr.fill (fun i => some (i * sz, sz)) ⟨z⟩ (ps.toList.map fun p => (p.1, a.eval p.2)) = some ⟨cs⟩ := by simpa using hf
  rw [hf']
  rfl
end
theorem JD.buildA {P : Program} {N : Sz} {ops : Array Oper} {Q : Exit → Act → World → Prop} {n : Nat} {es : List Nat} {Ls : Nat → List HP} {w0 : World} {fr0 : Nat → Fr} {Z : Fr → World → Prop} {d : Option Tmp} {ty : TypeId} {pos : String} {af : Array Edge} {r : List Oper} {i : Nat} {ks : List Kn}
    {t e : TypeId} {m sz : Nat} {b : Bool} {ps : Array (Nat × Operand)} {z cs : List Value} (hu : P.underlying t = some (.array m e)) (hs : tySh P e = some (b, sz)) (hz : tyZero P t = some z)
    (hc : fillK (frDet (depsOf af) ks (fr0 i)) (fun i => some (i * sz, sz)) ps.toList z = some cs) (hd : Fr.fits N d = true) (k : JD P N ops Q n es Ls w0 fr0 Z r (i + 1) (.det i d (.agg ⟨cs⟩) :: ks))
    (he : neB es i = true := by rfl) (hs0 : noS ks i = true := by rfl) : JD P N ops Q n es Ls w0 fr0 Z (⟨d, .build t ps, ty, pos, af, none⟩ :: r) i ks :=
  JD.det _ he hs0 (fun _ _ _ _ _ => JL.buildA hu hs hz hc hd (JL.one (o := ⟨d, .build t ps, ty, pos, af, none⟩) (Below.refl _ _))) k
theorem za195 : tyZero Try.prog 195 = some (List.replicate 256 (.slice none 0 0)) := by kernel_rfl
def tab0 : Tab := List.replicate 256 []
theorem Own.nilRows {w0 w : World} {L : List HP} (H : Own w0 w L) : ∀ n, Own w0 w (List.replicate n (spRow (.slice none 0 0) []) ++ L) := by
  intro n
  induction n with
  | zero => simpa using H
  | succ n ih => rw [List.replicate_succ]; exact ih.nilRow 306 2
theorem Own.newT {w0 w : World} {L : List HP} {β : Nat} (H : Own w0 w (blk β (.cells ⟨List.replicate 256 (.slice none 0 0)⟩ 195 (0, 0)) :: L)) : Own w0 w (tbl β tab0 :: L) := by
  refine Own.closeT (vs := List.replicate 256 (.slice none 0 0)) (by simp) (by simp [tab0]) ?_
  have h1 := H.nilRows 256
  have h2 := h1.perm (List.perm_middle)
  have : rowsL (List.replicate 256 (.slice none 0 0)) tab0 = List.replicate 256 (spRow (.slice none 0 0) []) := by
    unfold rowsL tab0
    rw [List.zipWith_replicate, Nat.min_self]
  rw [this]
  exact h2

def capOK : Value → Prop
  | .slice _ n c => n ≤ c
  | _ => True
theorem Sl.tail {α : Type} {ev : α → Value} {b : Bool} {sz n cap β off : Nat} {w : World} {x : α} {xs : List α} (h : Sl ev (b, sz) w (.slice (some ⟨β, off, none⟩) n cap) (x :: xs)) (hc : n ≤ cap) :
    Sl ev (b, sz) w (.slice (some (if cap = 1 then ⟨β, off, none⟩ else ⟨β, off + 1 * sz, none⟩)) (n - 1) (cap - 1)) xs := by
  obtain ⟨h1, a, c, h2, h3⟩ := h
  cases h2
  refine ⟨by simp at h1; omega, _, _, rfl, ?_⟩
  rcases h3 with h3 | ⟨β', off', h4, h5, h6⟩
  · cases h3
  · cases h4
    by_cases hxs : xs = []
    · exact .inl hxs
    · right
      have hl : 0 < xs.length := List.length_pos_iff.2 hxs
      rw [if_neg (by simp at hc; omega)]
      refine ⟨β, off + 1 * sz, rfl, h5, fun i y hy => ?_⟩
      have := h6 (i + 1) y (by simpa using hy)
      rw [show off + 1 * sz + i * sz = off + (i + 1) * sz by rw [Nat.add_mul]; omega]
      exact this
section
variable {P : Program} {N : Sz} {ops : Array Oper} {Q : Exit → Act → World → Prop} {rest : List Oper} {fr : Fr} {w w0 : World} {L : List HP}
  {d : Option Tmp} {ty : TypeId} {pos : String} {af : Array Edge}
theorem run_slice1 {t e : TypeId} {β off n cap sz : Nat} {b : Bool} {k : IntKind} (hu : P.underlying t = some (.slice e)) (hs : tySh P e = some (b, sz)) (hn : 1 ≤ n) :
    (Instr.slice t (.slice (some ⟨β, off, none⟩) n cap) (some (.int k 1)) none none).run P w = .ok (.slice (some (if cap = 1 then ⟨β, off, none⟩ else ⟨β, off + 1 * sz, none⟩)) (n - 1) (cap - 1)) w := by
  have hn' : (1 : Int) ≤ (n : Int) := by omega
  simp only [Instr.slice]
  rw [Sem.run_bind, run_underlying hu]
  simp only [Result.andThen]
  simp [Instr.sliceBounds, Instr.sliceBound, asIntOf, hn', (tySh_agg hs w).2, Addr.add]
  by_cases hc : cap = 1
  · simp [hc]
  · simp [hc]
theorem JL.slice1 {x y : Operand} {t e : TypeId} {β off n cap sz : Nat} {b : Bool} {kd : IntKind} (hx : fr.ev x = some (.slice (some ⟨β, off, none⟩) n cap)) (hy : fr.ev y = some (.int kd 1)) (hu : P.underlying t = some (.slice e)) (hs : tySh P e = some (b, sz)) (hn : 1 ≤ n) (hd : Fr.fits N d = true)
    (k : JL P N ops Q rest (fr.put d (.slice (some (if cap = 1 then ⟨β, off, none⟩ else ⟨β, off + 1 * sz, none⟩)) (n - 1) (cap - 1))) w) : JL P N ops Q (⟨d, .slice t x (some y) none none, ty, pos, af, none⟩ :: rest) fr w :=
  JL.val rfl hd (fun a H => by
    simp only [execOp, Option.map_some, Option.map_none, H.eval hx, H.eval hy]
    simp only [Instr.sliceAt]
    rw [Sem.run_bind, Sem.run_bind, run_underlying hu]
    simp only [Result.andThen]
    rw [run_slice1 hu hs hn]
    rfl) k
end
theorem JD.slice1 {P : Program} {N : Sz} {ops : Array Oper} {Q : Exit → Act → World → Prop} {n : Nat} {es : List Nat} {Ls : Nat → List HP} {w0 : World} {fr0 : Nat → Fr} {Z : Fr → World → Prop} {d : Option Tmp} {ty : TypeId} {pos : String} {af : Array Edge} {r : List Oper} {i : Nat} {ks : List Kn}
    {x y : Operand} {t e : TypeId} {β off m cap sz : Nat} {b : Bool} {kd : IntKind} (hx : (frDet (depsOf af) ks (fr0 i)).ev x = some (.slice (some ⟨β, off, none⟩) m cap)) (hy : (frDet (depsOf af) ks (fr0 i)).ev y = some (.int kd 1)) (hu : P.underlying t = some (.slice e)) (hs : tySh P e = some (b, sz)) (hm : 1 ≤ m) (hd : Fr.fits N d = true)
    (k : JD P N ops Q n es Ls w0 fr0 Z r (i + 1) (.det i d (.slice (some (if cap = 1 then ⟨β, off, none⟩ else ⟨β, off + 1 * sz, none⟩)) (m - 1) (cap - 1)) :: ks))
    (he : neB es i = true := by rfl) (hs0 : noS ks i = true := by rfl) : JD P N ops Q n es Ls w0 fr0 Z (⟨d, .slice t x (some y) none none, ty, pos, af, none⟩ :: r) i ks :=
  JD.det _ he hs0 (fun _ _ _ _ _ => JL.slice1 hx hy hu hs hm hd (JL.one (o := ⟨d, .slice t x (some y) none none, ty, pos, af, none⟩) (Below.refl _ _))) k
/-- a call that hands back memory of its own, in a drawn region -/
theorem JD.callN {P : Program} {N : Sz} {ops : Array Oper} {Q : Exit → Act → World → Prop} {n : Nat} {es : List Nat} {Ls : Nat → List HP} {w0 : World} {fr0 : Nat → Fr} {Z : Fr → World → Prop} {d : Tmp} {ty : TypeId} {pos : String} {af : Array Edge} {r : List Oper} {i : Nat} {ks : List Kn}
    {f : FuncId} {xs : Array Operand} {tys : Array TypeId} {vs : List Value} (A : Value → HP) (hb : hasBody P f = true) (hx : (frDet (depsOf af) ks (fr0 i)).evs xs.toList = some vs) (hd : Fr.fits N (some d) = true)
    (hc : ∀ w, Own w0 w (Ls 0) → Calls P f vs.toArray w (fun e w' => ∃ v, e = .returned v ∧ Own w w' [A v])) (k : JD P N ops Q n es Ls w0 fr0 Z r (i + 1) (.nd i d none A A :: ks))
    (he : neB es i = true := by rfl) (hs0 : noS ks i = true := by rfl) (hW : WB ops es i = true := by rfl) : JD P N ops Q n es Ls w0 fr0 Z (⟨some d, .call ⟨.value (.func f), xs, tys⟩, ty, pos, af, none⟩ :: r) i ks :=
  JD.nd none A A rfl he hs0 rfl (fun p w X h1 h2 hO => JL.call hb hx hd (hc w (by have := WB_spec hW h1 h2; subst this; exact hO.right)) fun _ w' h => by
    obtain ⟨v, rfl, K⟩ := h
    exact ⟨v, rfl, JL.oneN (o := ⟨some d, .call ⟨.value (.func f), xs, tys⟩, ty, pos, af, none⟩) rfl (hO.join K)⟩) k
theorem Own.rowCap {w0 w : World} {L : List HP} (H : Own w0 w L) {j : Nat} {e : TypeId} {sz : Nat} {v : Value} {n : Nat} {xs : List Value} (hj : L[j]? = some (row e sz v n xs)) : capOK v := by
  obtain ⟨_, h⟩ := H.row_shape hj
  rcases h with ⟨rfl, rfl⟩ | ⟨g, cap, cur, rfl, h, _⟩
  · exact Nat.le_refl _
  · exact h
section
variable {P : Program} {N : Sz} {Q : Exit → Act → World → Prop} {fr : Fr} {w : World}
/-- a region whose ways meet again -/
theorem JC.regionTo {id : Nat} {ops : Array Oper} (F : Fr) (I : World → Prop) (h1 : JL P N ops (Exit.then (fun a w' => Has N F a ∧ I w') Q) ops.toList fr w) (h2 : ∀ w', I w' → Ex N Q .normal F w') : JC P N (.region id ops false) Q fr w := by
  intro a H
  refine Code.wpIn_mono (fun e a' w' h => ?_) (wpIn_region_list (h1 a H))
  cases e with
  | normal => exact h2 w' h.2 a' h.1
  | _ => exact h
theorem Ex.to {F : Fr} {I : World → Prop} (hs : fr.sub F) (hI : I w) : Ex N (Exit.then (fun a w' => Has N F a ∧ I w') Q) .normal fr w := fun a H => ⟨H.sub hs, hI⟩
end
section
variable {P : Program} {N : Sz} {ops : Array Oper} {Q : Exit → Act → World → Prop} {rest : List Oper} {fr : Fr} {w w0 : World} {L : List HP}
  {d : Option Tmp} {ty : TypeId} {pos : String} {af : Array Edge}
/-- == or != at what is no number -/
structure EqAt2 (P : Program) (op : BinOp) (t : TypeId) (a b v : Value) : Prop where
  guard : ∀ x y w, (eqGuard op t x y a b).run P w = .ok () w
  run : ∀ w, (binOp op t a b).run P w = .ok v w
theorem JL.eqs {op : BinOp} {t yt : TypeId} {x y : Operand} {a b v : Value} (hx : fr.ev x = some a) (hy : fr.ev y = some b) (he : EqAt2 P op t a b v) (hd : Fr.fits N d = true) (k : JL P N ops Q rest (fr.put d v) w) :
    JL P N ops Q (⟨d, .binOp op t x y yt, ty, pos, af, none⟩ :: rest) fr w :=
  JL.val rfl hd (fun a' H => by
    simp only [execOp, H.eval hx, H.eval hy]
    simp [he.guard, he.run]) k
end
theorem JD.eqs {P : Program} {N : Sz} {ops : Array Oper} {Q : Exit → Act → World → Prop} {n : Nat} {es : List Nat} {Ls : Nat → List HP} {w0 : World} {fr0 : Nat → Fr} {Z : Fr → World → Prop} {d : Option Tmp} {ty : TypeId} {pos : String} {af : Array Edge} {r : List Oper} {i : Nat} {ks : List Kn}
    {op : BinOp} {t yt : TypeId} {x y : Operand} {a b v : Value} (hx : (frDet (depsOf af) ks (fr0 i)).ev x = some a) (hy : (frDet (depsOf af) ks (fr0 i)).ev y = some b) (he2 : EqAt2 P op t a b v) (hd : Fr.fits N d = true)
    (k : JD P N ops Q n es Ls w0 fr0 Z r (i + 1) (.det i d v :: ks)) (he : neB es i = true := by rfl) (hs0 : noS ks i = true := by rfl) : JD P N ops Q n es Ls w0 fr0 Z (⟨d, .binOp op t x y yt, ty, pos, af, none⟩ :: r) i ks :=
  JD.det _ he hs0 (fun _ _ _ _ _ => JL.eqs hx hy he2 hd (JL.one (o := ⟨d, .binOp op t x y yt, ty, pos, af, none⟩) (Below.refl _ _))) k
theorem eqBool (t : TypeId) (ht : Try.prog.underlying t = some .bool) (a b : Bool) : EqAt2 Try.prog .eql t (.bool a) (.bool b) (.bool (a == b)) :=
  ⟨fun x y w => by simp [eqGuard], fun w => by simp [binOp, Op.equal, Op.maxDepth, show (10000 : Nat) = 9999 + 1 from rfl, run_equalIn_bool w 9999 t a b ht]⟩
theorem eqFields2 (t : TypeId) (hS : Try.prog.underlying t = some (.struct (Try.prog.fieldsOf t))) (hp : Try.prog.stoodInHeld t = false) (hg : Try.prog.eqGuardType Try.prog.depth t = false) (xs ys : Array Value) (b : Bool)
    (h : ∀ w, (Op.eqFields 9999 xs ys (Try.prog.fieldsOf t).toList).run Try.prog w = .ok b w) : EqAt2 Try.prog .eql t (.agg xs) (.agg ys) (.bool b) ∧ EqAt2 Try.prog .neq t (.agg xs) (.agg ys) (.bool (!b)) := by
  refine ⟨⟨fun x y w => run_eqGuard_agg w .eql t x y xs ys hg, fun w => ?_⟩, ⟨fun x y w => run_eqGuard_agg w .neq t x y xs ys hg, fun w => ?_⟩⟩
  · rw [run_eql_struct, show (10000 : Nat) = 9999 + 1 from rfl, run_equalIn_agg w 9999 t _ _ hS hp, h w]; rfl
  · rw [run_neq_struct, show (10000 : Nat) = 9999 + 1 from rfl, run_equalIn_agg w 9999 t _ _ hS hp, h w]; rfl
theorem eq140 (a b c x y z : Int) : EqAt2 Try.prog .eql 140 (.agg ⟨[.int .i64 a, .int .i64 b, .int .i64 c]⟩) (.agg ⟨[.int .i64 x, .int .i64 y, .int .i64 z]⟩) (.bool (decide (a = x ∧ b = y ∧ c = z))) ∧
    EqAt2 Try.prog .neq 140 (.agg ⟨[.int .i64 a, .int .i64 b, .int .i64 c]⟩) (.agg ⟨[.int .i64 x, .int .i64 y, .int .i64 z]⟩) (.bool (!decide (a = x ∧ b = y ∧ c = z))) := by
  refine eqFields2 140 (by kernel_rfl) (by kernel_rfl) (by kernel_rfl) _ _ _ fun w => ?_
  have u3 := Try.underlying3
  have a3 := Try.isAgg3
  have z3 := Try.sizeOf3
  simp only [Program.fieldsOf, Try.underlying140]
  go_simp
  by_cases h1 : a = x <;> by_cases h2 : b = y <;> by_cases h3 : c = z <;> simp [h1, h2, h3]
end Go.J

namespace Go.J
open Go.RowKit Go.Proofs
set_option maxRecDepth 8000
set_option linter.unusedSimpArgs false
set_option linter.unusedVariables false
end Go.J

namespace Go.J
open Go.RowKit Go.Proofs
set_option maxRecDepth 8000
set_option linter.unusedSimpArgs false
set_option linter.unusedVariables false
/-- runs and an error, handed back; the runs lie in memory of ours -/
def ResR (w0 w : World) (L : List HP) (p : List Run × Int) (e : Ending) : Prop := ∃ rv, e = .returned (.tuple #[rv, .int .i64 p.2]) ∧ Own w0 w (runRow rv p.1 :: L)
def regRes (T : Tab) : List Run × Int := if (regR T).length ≤ 8192 then (regR T, 0) else ([], 3)
/-- spans as they come by add -/
structure Tab.good (W : Int) (k : Nat) (T : Tab) : Prop where
  len : T.length = 256
  le : ∀ l ∈ T, l.length ≤ k
  ne : ∀ l ∈ T, ∀ s ∈ l, s.a < s.b ∧ 0 ≤ s.a ∧ s.b ≤ W
theorem tab0_good (W : Int) : Tab.good W 0 tab0 := ⟨by simp [tab0], by intro l hl; simp [tab0] at hl; simp [hl], by intro l hl s hs; simp [tab0] at hl; subst hl; cases hs⟩
theorem Tab.good.add {W : Int} {k : Nat} {T : Tab} (h : Tab.good W k T) (H y a b : Int) : Tab.good W (k + 1) (T.add W H y a b) := by
  unfold Tab.add
  split
  · rename_i hc
    refine ⟨by simp [h.len], fun l hl => ?_, fun l hl s hs => ?_⟩
    · rcases List.mem_or_eq_of_mem_set hl with hl | rfl
      · have := h.le l hl; omega
      · simp only [List.length_append, List.length_singleton, List.getD]
        cases hx : T[y.toNat]? with
        | none => simp
        | some x => have := h.le x (List.mem_of_getElem? hx); simp; omega
    · rcases List.mem_or_eq_of_mem_set hl with hl | rfl
      · exact h.ne l hl s hs
      · rcases List.mem_append.1 hs with hs | hs
        · simp only [List.getD] at hs
          cases hx : T[y.toNat]? with
          | none => rw [hx] at hs; cases hs
          | some x => rw [hx] at hs; exact h.ne x (List.mem_of_getElem? hx) s hs
        · simp at hs
          subst hs
          simp only
          omega
  · exact ⟨h.len, fun l hl => Nat.le_succ_of_le (h.le l hl), h.ne⟩
theorem Tab.good.mono {W : Int} {k k' : Nat} {T : Tab} (h : Tab.good W k T) (hk : k ≤ k') : Tab.good W k' T := ⟨h.len, fun l hl => Nat.le_trans (h.le l hl) hk, h.ne⟩
theorem region_c2 {w0 w : World} {L : List HP} {β : Nat} {T : Tab} {W : Int} {k : Nat} (H : Own w0 w (tbl β T :: L)) (hg : Tab.good W k T) (hk : k ≤ 1000000000) (hW : W ≤ 256) :
    Calls Try.prog 131 #[.pointer (some ⟨β, 0, none⟩)] w (fun e w' => ResR w0 w' L (regRes T) e) := by
  refine (region_c H (fun l hl => Nat.le_trans (hg.le l hl) hk) (fun l hl s hs => by have := hg.ne l hl s hs; omega)).mono ?_
  rintro e w' (⟨h1, rfl, H'⟩ | ⟨h1, rv, rfl, H'⟩)
  · unfold ResR regRes
    rw [if_neg (by omega)]
    exact ⟨_, rfl, H'.nilRow 140 3⟩
  · unfold ResR regRes
    rw [if_pos h1]
    exact ⟨_, rfl, H'⟩
end Go.J

namespace Go.J
open Go.RowKit Go.Proofs
set_option maxRecDepth 8000
set_option linter.unusedSimpArgs false
set_option linter.unusedVariables false
/-- the cells of row y that runs have not, from a place on; and the runs behind the row -/
def othRow (W y : Int) : Int → List Run → List Run × List Run
  | at_, [] => (if at_ < W then [⟨y, at_, W⟩] else [], [])
  | at_, x :: r => if x.Y = y then
      ((if x.From > at_ then [⟨y, at_, x.From⟩] else []) ++ (othRow W y x.To r).1, (othRow W y x.To r).2)
    else (if at_ < W then [⟨y, at_, W⟩] else [], x :: r)
def othN (W : Int) : Nat → List Run → List Run × List Run
  | 0, r => ([], r)
  | n + 1, r => ((othN W n r).1 ++ (othRow W n 0 (othN W n r).2).1, (othRow W n 0 (othN W n r).2).2)
def othersR (g : Grid) (r : List Run) : List Run := (othN g.W g.H.toNat r).1
theorem othRow_len (W y : Int) : ∀ (r : List Run) (a : Int), (othRow W y a r).1.length + (othRow W y a r).2.length ≤ r.length + 1 := by
  intro r
  induction r with
  | nil => intro a; unfold othRow; split <;> simp
  | cons x r ih =>
    intro a
    unfold othRow
    split
    · have := ih x.To
      simp only [List.length_append, List.length_cons]
      split <;> simp <;> omega
    · split <;> simp <;> omega
theorem othN_len (W : Int) (r : List Run) : ∀ n, (othN W n r).1.length + (othN W n r).2.length ≤ r.length + n := by
  intro n
  induction n with
  | zero => simp [othN]
  | succ n ih =>
    unfold othN
    have := othRow_len W n (othN W n r).2 0
    simp only [List.length_append]
    omega
theorem others_c (g : Grid) (lv v : Value) (rs : List Run) (w : World) (hr : SlR w v rs) (hc : capOK v) (hgH : 1 ≤ g.H ∧ g.H ≤ 256) (hb : rs.length ≤ 1000000) (hall : ∀ r ∈ rs, True) :
    Calls Try.prog 147 #[g.ev lv, v] w (fun e w' => ∃ rv, e = .returned rv ∧ Own w w' [runRow rv (othersR g rs)]) := by
  refine calls_J (args := [g.ev lv, v]) Try.func147 rfl Try.ntmps147 rfl ?_
  have H := Own.start w
  ((repeat refine JC.seq ?_); refine JC.region ?_)
  refine JL.box H rfl rfl rfl ?_
  intro b2 w1 H
  refine JL.pure rfl rfl ?_
  refine JL.nil ?_
  ((repeat refine Ex.normal_block ?_); refine Ex.next ?_)
  ((repeat refine JC.seq ?_); refine JC.region ?_)
  refine JL.pure rfl rfl ?_
  refine JL.nil ?_
  ((repeat refine Ex.normal_block ?_); refine Ex.next ?_)
  ((repeat refine JC.seq ?_); refine JC.region ?_)
  refine JL.fieldAddr rfl Try.underlying52 rfl sh3 rfl ?_
  refine JL.loadB 0 H rfl sh3 rfl rfl rfl ?_
  refine JL.pure rfl rfl ?_
  refine JL.nil ?_
  ((repeat refine Ex.normal_block ?_); refine Ex.next ?_)
  ((repeat refine JC.seq ?_); refine JC.block ?_)
  ((repeat refine JC.seq ?_); refine JC.loop (ι := Nat × Value × Value) (fun x => [(1, x.2.1), (2, .pointer (some ⟨b2, 0, none⟩)), (5, x.2.2), (9, .int .i64 g.H), (10, .int .i64 x.1)])
    (fun x wr => x.1 ≤ g.H.toNat ∧ SlR w x.2.1 (othN g.W x.1 rs).2 ∧ capOK x.2.1 ∧ Own w wr [runRow x.2.2 (othN g.W x.1 rs).1, blk b2 (.cells ⟨[.int .i64 g.W, .int .i64 g.H, .int .i64 g.S, lv]⟩ 52 (0, 0))])
    (fun x => g.H.toNat - x.1) (0, v, .slice none 0 0) ?_ ?_ ?_)
  · exact ⟨rfl, rfl, rfl, rfl, rfl, trivial⟩
  · exact ⟨Nat.zero_le _, hr, hc, H.nilRow 140 3⟩
  · rintro ⟨y, rv, ov⟩ wr ⟨hy, hsl, hcap, H⟩
    simp only at hy hsl hcap H
    have hlen := othN_len g.W rs y
    generalize hon : othN g.W y rs = on at *
    obtain ⟨o1, o2⟩ := on
    simp only at hsl hcap H hlen
    ((repeat refine JC.seq ?_); refine JC.region ?_)
    refine JL.pure rfl rfl ?_
    refine JL.nil ?_
    ((repeat refine Ex.normal_block ?_); refine Ex.next ?_)
    ((repeat refine JC.seq ?_); refine JC.cond rfl ?_ ?_)
    · intro h11
      (try simp only [Bool.not_eq_true', Bool.not_eq_false', decide_eq_true_eq, decide_eq_false_iff_not] at h11)
      ((repeat refine JC.seq ?_); refine JC.skip ?_)
      ((repeat refine Ex.normal_block ?_); refine Ex.next ?_)
      ((repeat refine JC.seq ?_); refine JC.block ?_)
      ((repeat refine JC.seq ?_); refine JC.region ?_)
      refine JL.pure rfl rfl ?_
      refine JL.pure rfl rfl ?_
      refine JL.nil ?_
      ((repeat refine Ex.normal_block ?_); refine Ex.next ?_)
      ((repeat refine JC.seq ?_); refine JC.region ?_)
      refine JL.pure rfl rfl ?_
      refine JL.nil ?_
      ((repeat refine Ex.normal_block ?_); refine Ex.next ?_)
      ((repeat refine JC.seq ?_); refine JC.block ?_)
      ((repeat refine JC.seq ?_); refine JC.loop (ι := Value × Value × List Run × List Run × Int) (fun x => [(1, x.1), (2, .pointer (some ⟨b2, 0, none⟩)), (5, x.2.1), (6, .int .i64 y), (7, .int .i64 x.2.2.2.2), (9, .int .i64 g.H), (10, .int .i64 y)])
        (fun x wr => SlR w x.1 x.2.2.2.1 ∧ capOK x.1 ∧ x.2.2.1.length + x.2.2.2.1.length ≤ rs.length + y ∧ o1 ++ (othRow g.W y 0 o2).1 = x.2.2.1 ++ (othRow g.W y x.2.2.2.2 x.2.2.2.1).1 ∧ (othRow g.W y 0 o2).2 = (othRow g.W y x.2.2.2.2 x.2.2.2.1).2 ∧
          Own w wr [runRow x.2.1 x.2.2.1, blk b2 (.cells ⟨[.int .i64 g.W, .int .i64 g.H, .int .i64 g.S, lv]⟩ 52 (0, 0))])
        (fun x => x.2.2.2.1.length) (rv, ov, o1, o2, 0) ?_ ?_ ?_)
      · exact ⟨rfl, rfl, rfl, rfl, rfl, rfl, rfl, trivial⟩
      · exact ⟨hsl, hcap, hlen, rfl, rfl, H⟩
      · rintro ⟨rv, ov, oo, xs, at_⟩ wr ⟨hsl, hcap, hlen, he1, he2, H⟩
        simp only at hsl hcap hlen he1 he2 H
        have hslF := hsl
        obtain ⟨hsl1, a, cap, rfl, ha⟩ := hsl
        ((repeat refine JC.seq ?_); refine JC.region ?_)
        refine JL.pure rfl rfl ?_
        refine JL.len rfl Try.underlying50 rfl ?_
        refine JL.pure rfl rfl ?_
        refine JL.pure rfl rfl ?_
        refine JL.cases 16 rfl ?_ ?_
        · intro h16
          (try simp only [Bool.not_eq_true', Bool.not_eq_false', decide_eq_true_eq, decide_eq_false_iff_not] at h16)
          obtain ⟨x, xs, rfl⟩ : ∃ x r, xs = x :: r := by
            cases xs with
            | nil => simp at h16
            | cons x r => exact ⟨x, r, rfl⟩
          obtain ⟨β, off, rfl, hβ, hld⟩ := ha.resolve_left (by simp)
          have hx := hld 0 x rfl
          refine JL.want rfl rfl ?_
          refine JL.pure rfl rfl ?_
          refine JL.want rfl rfl ?_
          refine JL.indexS 0 rfl rfl Try.underlying50 sh140 rfl (by simp) rfl ?_
          refine JL.want rfl rfl ?_
          refine JL.fieldAddr rfl Try.underlying140 rfl sh3 rfl ?_
          refine JL.want rfl rfl ?_
          refine JL.load rfl sh3 ((hx.part 0 rfl 1).grow hβ H.below) rfl ?_
          refine JL.want rfl rfl ?_
          refine JL.pure rfl rfl ?_
          refine JL.want rfl rfl ?_
          refine JL.pure rfl rfl ?_
          refine JL.pure rfl rfl ?_
          refine JL.nil ?_
          ((repeat refine Ex.normal_block ?_); refine Ex.next ?_)
          ((repeat refine JC.seq ?_); refine JC.cond rfl ?_ ?_)
          · intro h23
            (try simp only [Bool.not_eq_true', Bool.not_eq_false', decide_eq_true_eq, decide_eq_false_iff_not] at h23)
            
            ((repeat refine JC.seq ?_); refine JC.skip ?_)
            ((repeat refine Ex.normal_block ?_); refine Ex.next ?_)
            ((repeat refine JC.seq ?_); refine JC.block ?_)
            ((repeat refine JC.seq ?_); refine JC.region ?_)
            refine JL.pure rfl rfl ?_
            refine JL.indexS 0 rfl rfl Try.underlying50 sh140 rfl (by simp) rfl ?_
            refine JL.fieldAddr rfl Try.underlying140 rfl sh3 rfl ?_
            refine JL.load rfl sh3 ((hx.part 1 rfl 1).grow hβ H.below) rfl ?_
            refine JL.pure rfl rfl ?_
            refine JL.pure rfl rfl ?_
            refine JL.nil ?_
            ((repeat refine Ex.normal_block ?_); refine Ex.next ?_)
            ((repeat refine JC.seq ?_); refine JC.cond rfl ?_ ?_)
            · intro h29
              (try simp only [Bool.not_eq_true', Bool.not_eq_false', decide_eq_true_eq, decide_eq_false_iff_not] at h29)
              ((repeat refine JC.seq ?_); refine JC.region ?_)
              refine JL.pure rfl rfl ?_
              refine JL.pure rfl rfl ?_
              refine JL.pure rfl rfl ?_
              refine JL.pure rfl rfl ?_
              refine JL.indexS 0 rfl rfl Try.underlying50 sh140 rfl (by simp) rfl ?_
              refine JL.fieldAddr rfl Try.underlying140 rfl sh3 rfl ?_
              refine JL.load rfl sh3 ((hx.part 1 rfl 1).grow hβ H.below) rfl ?_
              refine JL.build s140 rfl rfl ?_
              refine JL.buildSlice H Try.underlying50 sh140 z140 rfl rfl rfl rfl rfl ?_
              intro b38 w2 H
              refine JL.append1 (news := [.int .i64 y, .int .i64 at_, .int .i64 x.From]) 1 0 H Try.underlying50 ap140 rfl rfl rfl rfl rfl rfl (by simp only [List.length_cons, List.length_nil] at hlen; omega) (by simp only [List.length_cons, List.length_nil] at hlen; omega) rfl ?_
              intro ov2 wa H
              replace H := H.cast (L := _ :: runRow ov2 (oo ++ [⟨y, at_, x.From⟩]) :: _) (by unfold runRow; rw [← trow_snoc]; rfl)
              have H := H.drop 0
              refine JL.pure rfl rfl ?_
              refine JL.nil ?_
              ((repeat refine Ex.normal_block ?_); refine Ex.next ?_)
              ((repeat refine JC.seq ?_); refine JC.draw 8 H mixed (by kernel_rfl) rfl ?_)
              refine JD.pure rfl rfl ?_
              refine JD.indexS 0 rfl rfl Try.underlying50 sh140 rfl (by simp) rfl ?_
              refine JD.fieldAddr rfl Try.underlying140 rfl sh3 rfl ?_
              refine JD.load rfl sh3 (fun w hw => (hx.part 2 rfl 1).grow hβ hw.below) rfl ?_
              refine JD.pure rfl rfl ?_
              refine JD.slice1 rfl rfl Try.underlying50 sh140 (by simp) rfl ?_
              refine JD.pure rfl rfl ?_
              refine JD.pure rfl rfl ?_
              refine JD.nil ?_
              intro w3 H
              show JL _ _ _ _ _ _ _
              refine JL.nil ?_
              (repeat refine Ex.normal_block ?_)
              have heq : othRow g.W y at_ (x :: xs) = ((if x.From > at_ then [⟨y, at_, x.From⟩] else []) ++ (othRow g.W y x.To xs).1, (othRow g.W y x.To xs).2) := by
                rw [othRow, if_pos h23]
              rw [heq] at he1 he2
              rw [if_pos h29] at he1
              refine Ex.again (_, ov2, oo ++ [(⟨y, at_, x.From⟩ : Run)], xs, x.To) ⟨rfl, rfl, rfl, rfl, rfl, rfl, rfl, trivial⟩ ⟨hslF.tail hcap, ?_, ?_, ?_, he2, H⟩ (by simp)
              · simp only [capOK] at hcap ⊢; omega
              · simp only [List.length_append, List.length_cons, List.length_nil] at hlen ⊢; omega
              · simp only; rw [he1, List.append_assoc]
            · intro h29
              (try simp only [Bool.not_eq_true', Bool.not_eq_false', decide_eq_true_eq, decide_eq_false_iff_not] at h29)
              ((repeat refine JC.seq ?_); refine JC.skip ?_)
              ((repeat refine Ex.normal_block ?_); refine Ex.next ?_)
              ((repeat refine JC.seq ?_); refine JC.draw 8 H mixed (by kernel_rfl) rfl ?_)
              refine JD.pure rfl rfl ?_
              refine JD.indexS 0 rfl rfl Try.underlying50 sh140 rfl (by simp) rfl ?_
              refine JD.fieldAddr rfl Try.underlying140 rfl sh3 rfl ?_
              refine JD.load rfl sh3 (fun w hw => (hx.part 2 rfl 1).grow hβ hw.below) rfl ?_
              refine JD.pure rfl rfl ?_
              refine JD.slice1 rfl rfl Try.underlying50 sh140 (by simp) rfl ?_
              refine JD.pure rfl rfl ?_
              refine JD.pure rfl rfl ?_
              refine JD.nil ?_
              intro w4 H
              show JL _ _ _ _ _ _ _
              refine JL.nil ?_
              (repeat refine Ex.normal_block ?_)
              have heq : othRow g.W y at_ (x :: xs) = ((if x.From > at_ then [⟨y, at_, x.From⟩] else []) ++ (othRow g.W y x.To xs).1, (othRow g.W y x.To xs).2) := by
                rw [othRow, if_pos h23]
              rw [heq] at he1 he2
              rw [if_neg h29, List.nil_append] at he1
              refine Ex.again (_, ov, oo, xs, x.To) ⟨rfl, rfl, rfl, rfl, rfl, rfl, rfl, trivial⟩ ⟨hslF.tail hcap, ?_, ?_, he1, he2, H⟩ (by simp)
              · simp only [capOK] at hcap ⊢; omega
              · simp only [List.length_cons] at hlen ⊢; omega
          · intro h23
            (try simp only [Bool.not_eq_true', Bool.not_eq_false', decide_eq_true_eq, decide_eq_false_iff_not] at h23)
            have hfin : othRow g.W y at_ (x :: xs) = (if at_ < g.W then [⟨y, at_, g.W⟩] else [], x :: xs) := by
              rw [othRow, if_neg h23]
            ((repeat refine JC.seq ?_); refine JC.exit ?_)
            (repeat (first | refine Ex.exit_then ?_ | refine Ex.exit_miss (by decide) ?_))
            refine Ex.exit_hit ?_
            ((repeat refine Ex.normal_block ?_); refine Ex.next ?_)
            ((repeat refine JC.seq ?_); refine JC.region ?_)
            refine JL.pure rfl rfl ?_
            refine JL.fieldAddr rfl Try.underlying52 rfl sh3 rfl ?_
            refine JL.loadB 1 H rfl sh3 rfl rfl rfl ?_
            refine JL.pure rfl rfl ?_
            refine JL.nil ?_
            ((repeat refine Ex.normal_block ?_); refine Ex.next ?_)
            ((repeat refine JC.seq ?_); refine JC.cond rfl ?_ ?_)
            · intro h49
              (try simp only [Bool.not_eq_true', Bool.not_eq_false', decide_eq_true_eq, decide_eq_false_iff_not] at h49)
              ((repeat refine JC.seq ?_); refine JC.region ?_)
              refine JL.pure rfl rfl ?_
              refine JL.pure rfl rfl ?_
              refine JL.pure rfl rfl ?_
              refine JL.fieldAddr rfl Try.underlying52 rfl sh3 rfl ?_
              refine JL.loadB 1 H rfl sh3 rfl rfl rfl ?_
              refine JL.build s140 rfl rfl ?_
              refine JL.buildSlice H Try.underlying50 sh140 z140 rfl rfl rfl rfl rfl ?_
              intro b56 w5 H
              refine JL.append1 (news := [.int .i64 y, .int .i64 at_, .int .i64 g.W]) 1 0 H Try.underlying50 ap140 rfl rfl rfl rfl rfl rfl (by simp only [List.length_cons, List.length_nil] at hlen; omega) (by simp only [List.length_cons, List.length_nil] at hlen; omega) rfl ?_
              intro ov2 wa H
              replace H := H.cast (L := _ :: runRow ov2 (oo ++ [⟨y, at_, g.W⟩]) :: _) (by unfold runRow; rw [← trow_snoc]; rfl)
              have H := H.drop 0
              refine JL.pure rfl rfl ?_
              refine JL.nil ?_
              ((repeat refine Ex.normal_block ?_); refine Ex.next ?_)
              ((repeat refine JC.seq ?_); refine JC.region ?_)
              refine JL.arith rfl (by unfold In64; omega) rfl ?_
              refine JL.pure rfl rfl ?_
              refine JL.nil ?_
              (repeat refine Ex.normal_block ?_)
              rw [hfin] at he1 he2
              simp only at he1 he2
              have hstep : othN g.W (y + 1) rs = (o1 ++ (othRow g.W y 0 o2).1, (othRow g.W y 0 o2).2) := by
                rw [othN, hon]
              rw [he1, he2] at hstep
              rw [if_pos h49] at hstep
              refine Ex.again (y + 1, _, ov2) ⟨rfl, rfl, rfl, rfl, rfl, trivial⟩ ⟨by omega, ?_, hcap, ?_⟩ (by simp; omega)
              · simp only; rw [hstep]; exact hslF
              · simp only; rw [hstep]; exact H
            · intro h49
              (try simp only [Bool.not_eq_true', Bool.not_eq_false', decide_eq_true_eq, decide_eq_false_iff_not] at h49)
              ((repeat refine JC.seq ?_); refine JC.skip ?_)
              ((repeat refine Ex.normal_block ?_); refine Ex.next ?_)
              ((repeat refine JC.seq ?_); refine JC.region ?_)
              refine JL.arith rfl (by unfold In64; omega) rfl ?_
              refine JL.pure rfl rfl ?_
              refine JL.nil ?_
              (repeat refine Ex.normal_block ?_)
              rw [hfin] at he1 he2
              simp only at he1 he2
              have hstep : othN g.W (y + 1) rs = (o1 ++ (othRow g.W y 0 o2).1, (othRow g.W y 0 o2).2) := by
                rw [othN, hon]
              rw [he1, he2] at hstep
              rw [if_neg h49, List.append_nil] at hstep
              refine Ex.again (y + 1, _, ov) ⟨rfl, rfl, rfl, rfl, rfl, trivial⟩ ⟨by omega, ?_, hcap, ?_⟩ (by simp; omega)
              · simp only; rw [hstep]; exact hslF
              · simp only; rw [hstep]; exact H
        · intro h16
          (try simp only [Bool.not_eq_true', Bool.not_eq_false', decide_eq_true_eq, decide_eq_false_iff_not] at h16)
          have hxs : xs = [] := by
            cases xs with
            | nil => rfl
            | cons x r => exfalso; simp at h16
          subst hxs
          have hfin : othRow g.W y at_ [] = (if at_ < g.W then [⟨y, at_, g.W⟩] else [], []) := rfl
          refine JL.pass rfl rfl rfl rfl ?_
          refine JL.pass rfl rfl rfl rfl ?_
          refine JL.pass rfl rfl rfl rfl ?_
          refine JL.pass rfl rfl rfl rfl ?_
          refine JL.pass rfl rfl rfl rfl ?_
          refine JL.pass rfl rfl rfl rfl ?_
          refine JL.pure rfl rfl ?_
          refine JL.nil ?_
          ((repeat refine Ex.normal_block ?_); refine Ex.next ?_)
          ((repeat refine JC.seq ?_); refine JC.cond rfl (fun h => by cases h) (fun _ => ?_))
          ((repeat refine JC.seq ?_); refine JC.exit ?_)
          (repeat (first | refine Ex.exit_then ?_ | refine Ex.exit_miss (by decide) ?_))
          refine Ex.exit_hit ?_
          ((repeat refine Ex.normal_block ?_); refine Ex.next ?_)
          ((repeat refine JC.seq ?_); refine JC.region ?_)
          refine JL.pure rfl rfl ?_
          refine JL.fieldAddr rfl Try.underlying52 rfl sh3 rfl ?_
          refine JL.loadB 1 H rfl sh3 rfl rfl rfl ?_
          refine JL.pure rfl rfl ?_
          refine JL.nil ?_
          ((repeat refine Ex.normal_block ?_); refine Ex.next ?_)
          ((repeat refine JC.seq ?_); refine JC.cond rfl ?_ ?_)
          · intro h49
            (try simp only [Bool.not_eq_true', Bool.not_eq_false', decide_eq_true_eq, decide_eq_false_iff_not] at h49)
            ((repeat refine JC.seq ?_); refine JC.region ?_)
            refine JL.pure rfl rfl ?_
            refine JL.pure rfl rfl ?_
            refine JL.pure rfl rfl ?_
            refine JL.fieldAddr rfl Try.underlying52 rfl sh3 rfl ?_
            refine JL.loadB 1 H rfl sh3 rfl rfl rfl ?_
            refine JL.build s140 rfl rfl ?_
            refine JL.buildSlice H Try.underlying50 sh140 z140 rfl rfl rfl rfl rfl ?_
            intro b56_5 w6 H
            refine JL.append1 (news := [.int .i64 y, .int .i64 at_, .int .i64 g.W]) 1 0 H Try.underlying50 ap140 rfl rfl rfl rfl rfl rfl (by simp only [List.length_cons, List.length_nil] at hlen; omega) (by simp only [List.length_cons, List.length_nil] at hlen; omega) rfl ?_
            intro ov2 wa H
            replace H := H.cast (L := _ :: runRow ov2 (oo ++ [⟨y, at_, g.W⟩]) :: _) (by unfold runRow; rw [← trow_snoc]; rfl)
            have H := H.drop 0
            refine JL.pure rfl rfl ?_
            refine JL.nil ?_
            ((repeat refine Ex.normal_block ?_); refine Ex.next ?_)
            ((repeat refine JC.seq ?_); refine JC.region ?_)
            refine JL.arith rfl (by unfold In64; omega) rfl ?_
            refine JL.pure rfl rfl ?_
            refine JL.nil ?_
            (repeat refine Ex.normal_block ?_)
            rw [hfin] at he1 he2
            simp only at he1 he2
            have hstep : othN g.W (y + 1) rs = (o1 ++ (othRow g.W y 0 o2).1, (othRow g.W y 0 o2).2) := by
              rw [othN, hon]
            rw [he1, he2] at hstep
            rw [if_pos h49] at hstep
            refine Ex.again (y + 1, _, ov2) ⟨rfl, rfl, rfl, rfl, rfl, trivial⟩ ⟨by omega, ?_, hcap, ?_⟩ (by simp; omega)
            · simp only; rw [hstep]; exact hslF
            · simp only; rw [hstep]; exact H
          · intro h49
            (try simp only [Bool.not_eq_true', Bool.not_eq_false', decide_eq_true_eq, decide_eq_false_iff_not] at h49)
            ((repeat refine JC.seq ?_); refine JC.skip ?_)
            ((repeat refine Ex.normal_block ?_); refine Ex.next ?_)
            ((repeat refine JC.seq ?_); refine JC.region ?_)
            refine JL.arith rfl (by unfold In64; omega) rfl ?_
            refine JL.pure rfl rfl ?_
            refine JL.nil ?_
            (repeat refine Ex.normal_block ?_)
            rw [hfin] at he1 he2
            simp only at he1 he2
            have hstep : othN g.W (y + 1) rs = (o1 ++ (othRow g.W y 0 o2).1, (othRow g.W y 0 o2).2) := by
              rw [othN, hon]
            rw [he1, he2] at hstep
            rw [if_neg h49, List.append_nil] at hstep
            refine Ex.again (y + 1, _, ov) ⟨rfl, rfl, rfl, rfl, rfl, trivial⟩ ⟨by omega, ?_, hcap, ?_⟩ (by simp; omega)
            · simp only; rw [hstep]; exact hslF
            · simp only; rw [hstep]; exact H
    · intro h11
      (try simp only [Bool.not_eq_true', Bool.not_eq_false', decide_eq_true_eq, decide_eq_false_iff_not] at h11)
      ((repeat refine JC.seq ?_); refine JC.exit ?_)
      (repeat (first | refine Ex.exit_then ?_ | refine Ex.exit_miss (by decide) ?_))
      refine Ex.exit_hit ?_
      ((repeat refine Ex.normal_block ?_); refine Ex.next ?_)
      ((repeat refine JC.seq ?_); refine JC.region ?_)
      refine JL.pure rfl rfl ?_
      refine JL.pure rfl rfl ?_
      refine JL.nil ?_
      ((repeat refine Ex.normal_block ?_); refine Ex.next ?_)
      ((repeat refine JC.seq ?_); refine JC.ret ?_)
      (repeat (first | refine Ex.ret_then ?_ | refine Ex.ret_block ?_))
      refine Ex.ret1 rfl (.tmp rfl) ⟨_, rfl, ?_⟩
      have hyy : y = g.H.toNat := by omega
      subst hyy
      unfold othersR
      rw [hon]
      exact H.drop 1
end Go.J

namespace Go.J
open Go.RowKit Go.Proofs
set_option maxRecDepth 8000
set_option linter.unusedSimpArgs false
set_option linter.unusedVariables false
theorem Sl.ld {α : Type} {ev : α → Value} {sh : Bool × Nat} {w : World} {β off n cap : Nat} {xs : List α} (h : Sl ev sh w (.slice (some ⟨β, off, none⟩) n cap) xs) {k : Nat} {x : α} (hx : xs[k]? = some x) : LdAt w β (off + k * sh.2) sh (ev x) := by
  obtain ⟨_, a, c, h2, h3⟩ := h
  cases h2
  rcases h3 with rfl | ⟨β', off', h4, _, h6⟩
  · simp at hx
  · cases h4
    exact h6 k x hx
theorem Sl.shape {α : Type} {ev : α → Value} {sh : Bool × Nat} {w : World} {v : Value} {x : α} {xs : List α} (h : Sl ev sh w v (x :: xs)) : ∃ β off cap, v = .slice (some ⟨β, off, none⟩) (xs.length + 1) cap := by
  obtain ⟨_, a, c, h2, h3⟩ := h
  rcases h3 with h3 | ⟨β, off, rfl, _, _⟩
  · cases h3
  · exact ⟨β, off, c, h2⟩
theorem Sl.len {α : Type} {ev : α → Value} {sh : Bool × Nat} {w : World} {v : Value} {xs : List α} (h : Sl ev sh w v xs) : ∃ a cap, v = .slice a xs.length cap := by
  obtain ⟨_, a, c, h2, _⟩ := h
  exact ⟨a, c, h2⟩
def bothN (W H : Int) : Nat → Tab → List Run → List Run → Tab
  | n + 1, T, x :: a, y :: b =>
    if x.Y < y.Y ∨ x.Y = y.Y ∧ x.To < y.To then bothN W H n (if x.Y = y.Y then T.add W H x.Y (max x.From y.From) (min x.To y.To) else T) a (y :: b)
    else bothN W H n (if x.Y = y.Y then T.add W H x.Y (max x.From y.From) (min x.To y.To) else T) (x :: a) b
  | _, T, _, _ => T
/-- the cells of both, added -/
def bothT (W H : Int) (T : Tab) (a b : List Run) : Tab := bothN W H (a.length + b.length) T a b
theorem bothT_nil1 (W H : Int) (T : Tab) (b : List Run) : bothT W H T [] b = T := by unfold bothT; cases b <;> simp [bothN]
theorem bothT_nil2 (W H : Int) (T : Tab) (a : List Run) : bothT W H T a [] = T := by unfold bothT; cases a <;> simp [bothN]
theorem bothT_cons (W H : Int) (T : Tab) (x y : Run) (a b : List Run) : bothT W H T (x :: a) (y :: b) =
    if x.Y < y.Y ∨ x.Y = y.Y ∧ x.To < y.To then bothT W H (if x.Y = y.Y then T.add W H x.Y (max x.From y.From) (min x.To y.To) else T) a (y :: b)
    else bothT W H (if x.Y = y.Y then T.add W H x.Y (max x.From y.From) (min x.To y.To) else T) (x :: a) b := by
  unfold bothT
  rw [show (x :: a).length + (y :: b).length = (a.length + (y :: b).length) + 1 by simp; omega, bothN]
  rw [show (x :: a).length + b.length = a.length + (y :: b).length by simp; omega]
theorem both_good {W : Int} (H : Int) : ∀ (n k : Nat) (T : Tab) (a b : List Run), Tab.good W k T → Tab.good W (k + n) (bothN W H n T a b) := by
  intro n
  induction n with
  | zero => intro k T a b h; cases a <;> cases b <;> exact h
  | succ n ih =>
    intro k T a b h
    cases a with
    | nil => exact h.mono (by omega)
    | cons x a => cases b with
      | nil => exact h.mono (by omega)
      | cons y b =>
        have h' : Tab.good W (k + 1) (if x.Y = y.Y then T.add W H x.Y (max x.From y.From) (min x.To y.To) else T) := by
          split
          · exact h.add _ _ _ _
          · exact h.mono (by omega)
        rw [bothN]
        rw [show k + (n + 1) = k + 1 + n by omega]
        split <;> exact ih _ _ _ _ h'
theorem both_c {w0 w : World} {L : List HP} {β : Nat} {T : Tab} (H : Own w0 w (tbl β T :: L)) (g : Grid) (lv av bv : Value) (xa xb : List Run) (hgW : 1 ≤ g.W ∧ g.W ≤ 256) (hgH : 1 ≤ g.H ∧ g.H ≤ 256)
    (ha : ∀ w' T', Own w0 w' (tbl β T' :: L) → SlR w' av xa) (hb : ∀ w' T', Own w0 w' (tbl β T' :: L) → SlR w' bv xb) (hca : capOK av) (hcb : capOK bv) {k : Nat} (hT : Tab.good g.W k T) (hk : k + xa.length + xb.length ≤ 1000000000) :
    Calls Try.prog 130 #[.pointer (some ⟨β, 0, none⟩), g.ev lv, av, bv] w (fun e w' => e = .returned (.tuple #[]) ∧ Own w0 w' (tbl β (bothT g.W g.H T xa xb) :: L)) := by
  refine calls_J (args := [.pointer (some ⟨β, 0, none⟩), g.ev lv, av, bv]) Try.func130 rfl Try.ntmps130 rfl ?_
  ((repeat refine JC.seq ?_); refine JC.region ?_)
  refine JL.box H rfl rfl rfl ?_
  intro b5 w1 H
  refine JL.nil ?_
  ((repeat refine Ex.normal_block ?_); refine Ex.next ?_)
  ((repeat refine JC.seq ?_); refine JC.block ?_)
  ((repeat refine JC.seq ?_); refine JC.loop (ι := Value × Value × List Run × List Run × Tab × Nat) (fun x => [(0, .pointer (some ⟨β, 0, none⟩)), (2, x.1), (3, x.2.1), (5, .pointer (some ⟨b5, 0, none⟩))])
    (fun x wr => (∀ w' T', Own w0 w' (tbl β T' :: L) → SlR w' x.1 x.2.2.1) ∧ (∀ w' T', Own w0 w' (tbl β T' :: L) → SlR w' x.2.1 x.2.2.2.1) ∧ capOK x.1 ∧ capOK x.2.1 ∧ Tab.good g.W x.2.2.2.2.2 x.2.2.2.2.1 ∧ x.2.2.2.2.2 + x.2.2.1.length + x.2.2.2.1.length ≤ 1000000000 ∧
      bothT g.W g.H T xa xb = bothT g.W g.H x.2.2.2.2.1 x.2.2.1 x.2.2.2.1 ∧ Own w0 wr (tbl β x.2.2.2.2.1 :: blk b5 (.cells ⟨[.int .i64 g.W, .int .i64 g.H, .int .i64 g.S, lv]⟩ 52 (0, 0)) :: L))
    (fun x => x.2.2.1.length + x.2.2.2.1.length) (av, bv, xa, xb, T, k) ?_ ?_ ?_)
  · exact ⟨rfl, rfl, rfl, rfl, trivial⟩
  · exact ⟨ha, hb, hca, hcb, hT, hk, rfl, H.front 1 rfl⟩
  · rintro ⟨av, bv, xa', xb', T', k'⟩ wr ⟨ha, hb, hca, hcb, hT, hk, he, H⟩
    simp only at ha hb hca hcb hT hk he H
    obtain ⟨aa, ac, rfl⟩ := (ha _ _ (H.drop 1)).len
    obtain ⟨ba, bc, rfl⟩ := (hb _ _ (H.drop 1)).len
    ((repeat refine JC.seq ?_); refine JC.region ?_)
    refine JL.pure rfl rfl ?_
    refine JL.len rfl Try.underlying50 rfl ?_
    refine JL.pure rfl rfl ?_
    refine JL.pure rfl rfl ?_
    refine JL.cases 13 rfl ?_ ?_
    · intro h13
      (try simp only [Bool.not_eq_true', Bool.not_eq_false', decide_eq_true_eq, decide_eq_false_iff_not] at h13)
      obtain ⟨x, xa', rfl⟩ : ∃ x r, xa' = x :: r := by
        cases xa' with
        | nil => simp at h13
        | cons x r => exact ⟨x, r, rfl⟩
      obtain ⟨αβ, αo, αc, hsh⟩ := (ha _ _ (H.drop 1)).shape
      simp only [Value.slice.injEq] at hsh
      obtain ⟨rfl, _, rfl⟩ := hsh
      refine JL.want rfl rfl ?_
      refine JL.pure rfl rfl ?_
      refine JL.want rfl rfl ?_
      refine JL.len rfl Try.underlying50 rfl ?_
      refine JL.want rfl rfl ?_
      refine JL.pure rfl rfl ?_
      refine JL.pure rfl rfl ?_
      refine JL.nil ?_
      ((repeat refine Ex.normal_block ?_); refine Ex.next ?_)
      ((repeat refine JC.seq ?_); refine JC.cond rfl ?_ ?_)
      · intro h17
        (try simp only [Bool.not_eq_true', Bool.not_eq_false', decide_eq_true_eq, decide_eq_false_iff_not] at h17)
        obtain ⟨y, xb', rfl⟩ : ∃ x r, xb' = x :: r := by
          cases xb' with
          | nil => simp at h17
          | cons x r => exact ⟨x, r, rfl⟩
        obtain ⟨ββ, βo, βc, hsh⟩ := (hb _ _ (H.drop 1)).shape
        simp only [Value.slice.injEq] at hsh
        obtain ⟨rfl, _, rfl⟩ := hsh
        ((repeat refine JC.seq ?_); refine JC.skip ?_)
        ((repeat refine Ex.normal_block ?_); refine Ex.next ?_)
        ((repeat refine JC.seq ?_); refine JC.block ?_)
        ((repeat refine JC.seq ?_); refine JC.draw 10 H mixed (by kernel_rfl) rfl ?_)
        refine JD.pure rfl rfl ?_
        refine JD.indexS 0 rfl rfl Try.underlying50 sh140 rfl (by simp) rfl ?_
        refine JD.load rfl sh140 (fun w hw => (ha _ _ (hw.drop 1)).ld (k := 0) rfl) rfl ?_
        refine JD.pure rfl rfl ?_
        refine JD.indexS 0 rfl rfl Try.underlying50 sh140 rfl (by simp) rfl ?_
        refine JD.load rfl sh140 (fun w hw => (hb _ _ (hw.drop 1)).ld (k := 0) rfl) rfl ?_
        refine JD.allocS 8 (.tmp 20) z140 rfl rfl ?_
        refine JD.allocS 9 (.tmp 23) z140 rfl rfl ?_
        refine JD.storeF rfl rfl rfl sh140 rfl rfl rfl ?_
        refine JD.storeF rfl rfl rfl sh140 rfl rfl rfl ?_
        refine JD.nil ?_
        intro w2 v9 v8 H
        obtain ⟨b8, rfl, H⟩ := H.ptr (j := 0) rfl
        obtain ⟨b9, rfl, H⟩ := H.ptr (j := 1) rfl
        show JL _ _ _ _ _ _ _
        refine JL.nil ?_
        ((repeat refine Ex.normal_block ?_); refine Ex.next ?_)
        ((repeat refine JC.seq ?_); refine JC.region ?_)
        refine JL.fieldAddr rfl Try.underlying140 rfl sh3 rfl ?_
        refine JL.loadB 0 H rfl sh3 rfl rfl rfl ?_
        refine JL.fieldAddr rfl Try.underlying140 rfl sh3 rfl ?_
        refine JL.loadB 1 H rfl sh3 rfl rfl rfl ?_
        refine JL.pure rfl rfl ?_
        refine JL.nil ?_
        ((repeat refine Ex.normal_block ?_); refine Ex.next ?_)
        ((repeat refine JC.seq ?_); refine JC.cond rfl ?_ ?_)
        · intro h28
          (try simp only [Bool.not_eq_true', Bool.not_eq_false', decide_eq_true_eq, decide_eq_false_iff_not] at h28)
          ((repeat refine JC.seq ?_); refine JC.region ?_)
          refine JL.pure rfl rfl ?_
          refine JL.loadB 3 H rfl sh52 rfl rfl rfl ?_
          refine JL.fieldAddr rfl Try.underlying140 rfl sh3 rfl ?_
          refine JL.loadB 0 H rfl sh3 rfl rfl rfl ?_
          refine JL.fieldAddr rfl Try.underlying140 rfl sh3 rfl ?_
          refine JL.loadB 0 H rfl sh3 rfl rfl rfl ?_
          refine JL.fieldAddr rfl Try.underlying140 rfl sh3 rfl ?_
          refine JL.loadB 1 H rfl sh3 rfl rfl rfl ?_
          refine JL.pure rfl rfl ?_
          refine JL.fieldAddr rfl Try.underlying140 rfl sh3 rfl ?_
          refine JL.loadB 0 H rfl sh3 rfl rfl rfl ?_
          refine JL.fieldAddr rfl Try.underlying140 rfl sh3 rfl ?_
          refine JL.loadB 1 H rfl sh3 rfl rfl rfl ?_
          refine JL.pure rfl rfl ?_
          have H := H.front 2 rfl
          refine JL.call fb134 rfl rfl (add_c H _ _ _ _ _ _ _ hgH hgW.2 (fun l hl => by have := hT.le l hl; simp only [List.length_cons] at hk; omega)) ?_
          rintro _ w3 ⟨rfl, H⟩
          refine ⟨_, rfl, ?_⟩
          refine JL.nil ?_
          ((repeat refine Ex.normal_block ?_); refine Ex.next ?_)
          ((repeat refine JC.seq ?_); refine JC.region ?_)
          refine JL.fieldAddr rfl Try.underlying140 rfl sh3 rfl ?_
          refine JL.loadB 1 H rfl sh3 rfl rfl rfl ?_
          refine JL.fieldAddr rfl Try.underlying140 rfl sh3 rfl ?_
          refine JL.loadB 2 H rfl sh3 rfl rfl rfl ?_
          refine JL.pure rfl rfl ?_
          refine JL.pure rfl rfl ?_
          refine JL.cases 49 rfl ?_ ?_
          · intro h49
            (try simp only [Bool.not_eq_true', Bool.not_eq_false', decide_eq_true_eq, decide_eq_false_iff_not] at h49)
            refine JL.pass rfl rfl rfl rfl ?_
            refine JL.pass rfl rfl rfl rfl ?_
            refine JL.pass rfl rfl rfl rfl ?_
            refine JL.pass rfl rfl rfl rfl ?_
            refine JL.pass rfl rfl rfl rfl ?_
            refine JL.pass rfl rfl rfl rfl ?_
            refine JL.passU rfl rfl rfl ?_
            refine JL.passU rfl rfl rfl ?_
            refine JL.passU rfl rfl rfl ?_
            refine JL.passU rfl rfl rfl ?_
            refine JL.passU rfl rfl rfl ?_
            refine JL.pass rfl rfl rfl rfl ?_
            refine JL.pure rfl rfl ?_
            refine JL.nil ?_
            ((repeat refine Ex.normal_block ?_); refine Ex.next ?_)
            ((repeat refine JC.seq ?_); refine JC.cond rfl (fun _ => ?_) (fun h => by cases h))
            ((repeat refine JC.seq ?_); refine JC.region ?_)
            refine JL.pure rfl rfl ?_
            have hcond : x.Y < y.Y ∨ x.Y = y.Y ∧ x.To < y.To := by omega
            refine JL.slice1 rfl rfl Try.underlying50 sh140 (by simp) rfl ?_
            refine JL.pure rfl rfl ?_
            refine JL.nil ?_
            (repeat refine Ex.normal_block ?_)
            have H := H.drop 2
            have H := H.drop 1
            rw [bothT_cons] at he
            rw [if_pos h28] at he
            replace hT := hT.add g.H x.Y (max x.From y.From) (min x.To y.To)
            rw [if_pos hcond] at he
            refine Ex.again (_, _, xa', y :: xb', _, k' + 1) ⟨rfl, rfl, rfl, rfl, trivial⟩ ⟨fun w' T'' h => (ha w' T'' h).tail hca, hb, ?_, hcb, hT, ?_, he, H⟩ (by simp)
            · simp only [capOK] at hca ⊢; omega
            · simp only [List.length_cons] at hk ⊢; omega
          · intro h49
            (try simp only [Bool.not_eq_true', Bool.not_eq_false', decide_eq_true_eq, decide_eq_false_iff_not] at h49)
            refine JL.want rfl rfl ?_
            refine JL.fieldAddr rfl Try.underlying140 rfl sh3 rfl ?_
            refine JL.want rfl rfl ?_
            refine JL.loadB 1 H rfl sh3 rfl rfl rfl ?_
            refine JL.want rfl rfl ?_
            refine JL.fieldAddr rfl Try.underlying140 rfl sh3 rfl ?_
            refine JL.want rfl rfl ?_
            refine JL.loadB 2 H rfl sh3 rfl rfl rfl ?_
            refine JL.want rfl rfl ?_
            refine JL.pure rfl rfl ?_
            refine JL.want rfl rfl ?_
            refine JL.pure rfl rfl ?_
            refine JL.cases 55 rfl ?_ ?_
            · intro h55
              (try simp only [Bool.not_eq_true', Bool.not_eq_false', decide_eq_true_eq, decide_eq_false_iff_not] at h55)
              refine JL.want rfl rfl ?_
              refine JL.fieldAddr rfl Try.underlying140 rfl sh3 rfl ?_
              refine JL.want rfl rfl ?_
              refine JL.loadB 1 H rfl sh3 rfl rfl rfl ?_
              refine JL.want rfl rfl ?_
              refine JL.fieldAddr rfl Try.underlying140 rfl sh3 rfl ?_
              refine JL.want rfl rfl ?_
              refine JL.loadB 2 H rfl sh3 rfl rfl rfl ?_
              refine JL.want rfl rfl ?_
              refine JL.pure rfl rfl ?_
              refine JL.want rfl rfl ?_
              refine JL.pure rfl rfl ?_
              refine JL.pure rfl rfl ?_
              refine JL.nil ?_
              ((repeat refine Ex.normal_block ?_); refine Ex.next ?_)
              ((repeat refine JC.seq ?_); refine JC.cond rfl ?_ ?_)
              · intro h62
                (try simp only [Bool.not_eq_true', Bool.not_eq_false', decide_eq_true_eq, decide_eq_false_iff_not] at h62)
                ((repeat refine JC.seq ?_); refine JC.region ?_)
                refine JL.pure rfl rfl ?_
                have hcond : x.Y < y.Y ∨ x.Y = y.Y ∧ x.To < y.To := by omega
                refine JL.slice1 rfl rfl Try.underlying50 sh140 (by simp) rfl ?_
                refine JL.pure rfl rfl ?_
                refine JL.nil ?_
                (repeat refine Ex.normal_block ?_)
                have H := H.drop 2
                have H := H.drop 1
                rw [bothT_cons] at he
                rw [if_pos h28] at he
                replace hT := hT.add g.H x.Y (max x.From y.From) (min x.To y.To)
                rw [if_pos hcond] at he
                refine Ex.again (_, _, xa', y :: xb', _, k' + 1) ⟨rfl, rfl, rfl, rfl, trivial⟩ ⟨fun w' T'' h => (ha w' T'' h).tail hca, hb, ?_, hcb, hT, ?_, he, H⟩ (by simp)
                · simp only [capOK] at hca ⊢; omega
                · simp only [List.length_cons] at hk ⊢; omega
              · intro h62
                (try simp only [Bool.not_eq_true', Bool.not_eq_false', decide_eq_true_eq, decide_eq_false_iff_not] at h62)
                ((repeat refine JC.seq ?_); refine JC.region ?_)
                refine JL.pure rfl rfl ?_
                have hcond : ¬ (x.Y < y.Y ∨ x.Y = y.Y ∧ x.To < y.To) := by omega
                refine JL.slice1 rfl rfl Try.underlying50 sh140 (by simp) rfl ?_
                refine JL.pure rfl rfl ?_
                refine JL.nil ?_
                (repeat refine Ex.normal_block ?_)
                have H := H.drop 2
                have H := H.drop 1
                rw [bothT_cons] at he
                rw [if_pos h28] at he
                replace hT := hT.add g.H x.Y (max x.From y.From) (min x.To y.To)
                rw [if_neg hcond] at he
                refine Ex.again (_, _, x :: xa', xb', _, k' + 1) ⟨rfl, rfl, rfl, rfl, trivial⟩ ⟨ha, fun w' T'' h => (hb w' T'' h).tail hcb, hca, ?_, hT, ?_, he, H⟩ (by simp)
                · simp only [capOK] at hcb ⊢; omega
                · simp only [List.length_cons] at hk ⊢; omega
            · intro h55
              (try simp only [Bool.not_eq_true', Bool.not_eq_false', decide_eq_true_eq, decide_eq_false_iff_not] at h55)
              refine JL.pass rfl rfl rfl rfl ?_
              refine JL.pass rfl rfl rfl rfl ?_
              refine JL.pass rfl rfl rfl rfl ?_
              refine JL.pass rfl rfl rfl rfl ?_
              refine JL.pass rfl rfl rfl rfl ?_
              refine JL.want rfl rfl ?_
              refine JL.pure rfl rfl ?_
              refine JL.pure rfl rfl ?_
              refine JL.nil ?_
              ((repeat refine Ex.normal_block ?_); refine Ex.next ?_)
              ((repeat refine JC.seq ?_); refine JC.cond rfl (fun h => by cases h) (fun _ => ?_))
              ((repeat refine JC.seq ?_); refine JC.region ?_)
              refine JL.pure rfl rfl ?_
              have hcond : ¬ (x.Y < y.Y ∨ x.Y = y.Y ∧ x.To < y.To) := by omega
              refine JL.slice1 rfl rfl Try.underlying50 sh140 (by simp) rfl ?_
              refine JL.pure rfl rfl ?_
              refine JL.nil ?_
              (repeat refine Ex.normal_block ?_)
              have H := H.drop 2
              have H := H.drop 1
              rw [bothT_cons] at he
              rw [if_pos h28] at he
              replace hT := hT.add g.H x.Y (max x.From y.From) (min x.To y.To)
              rw [if_neg hcond] at he
              refine Ex.again (_, _, x :: xa', xb', _, k' + 1) ⟨rfl, rfl, rfl, rfl, trivial⟩ ⟨ha, fun w' T'' h => (hb w' T'' h).tail hcb, hca, ?_, hT, ?_, he, H⟩ (by simp)
              · simp only [capOK] at hcb ⊢; omega
              · simp only [List.length_cons] at hk ⊢; omega
        · intro h28
          (try simp only [Bool.not_eq_true', Bool.not_eq_false', decide_eq_true_eq, decide_eq_false_iff_not] at h28)
          ((repeat refine JC.seq ?_); refine JC.skip ?_)
          ((repeat refine Ex.normal_block ?_); refine Ex.next ?_)
          ((repeat refine JC.seq ?_); refine JC.region ?_)
          refine JL.fieldAddr rfl Try.underlying140 rfl sh3 rfl ?_
          refine JL.loadB 0 H rfl sh3 rfl rfl rfl ?_
          refine JL.fieldAddr rfl Try.underlying140 rfl sh3 rfl ?_
          refine JL.loadB 1 H rfl sh3 rfl rfl rfl ?_
          refine JL.pure rfl rfl ?_
          refine JL.pure rfl rfl ?_
          refine JL.cases 49 rfl ?_ ?_
          · intro h49
            (try simp only [Bool.not_eq_true', Bool.not_eq_false', decide_eq_true_eq, decide_eq_false_iff_not] at h49)
            refine JL.pass rfl rfl rfl rfl ?_
            refine JL.pass rfl rfl rfl rfl ?_
            refine JL.pass rfl rfl rfl rfl ?_
            refine JL.pass rfl rfl rfl rfl ?_
            refine JL.pass rfl rfl rfl rfl ?_
            refine JL.pass rfl rfl rfl rfl ?_
            refine JL.passU rfl rfl rfl ?_
            refine JL.passU rfl rfl rfl ?_
            refine JL.passU rfl rfl rfl ?_
            refine JL.passU rfl rfl rfl ?_
            refine JL.passU rfl rfl rfl ?_
            refine JL.pass rfl rfl rfl rfl ?_
            refine JL.pure rfl rfl ?_
            refine JL.nil ?_
            ((repeat refine Ex.normal_block ?_); refine Ex.next ?_)
            ((repeat refine JC.seq ?_); refine JC.cond rfl (fun _ => ?_) (fun h => by cases h))
            ((repeat refine JC.seq ?_); refine JC.region ?_)
            refine JL.pure rfl rfl ?_
            have hcond : x.Y < y.Y ∨ x.Y = y.Y ∧ x.To < y.To := by omega
            refine JL.slice1 rfl rfl Try.underlying50 sh140 (by simp) rfl ?_
            refine JL.pure rfl rfl ?_
            refine JL.nil ?_
            (repeat refine Ex.normal_block ?_)
            have H := H.drop 1
            have H := H.drop 0
            rw [bothT_cons] at he
            rw [if_neg h28] at he
            replace hT := hT.mono (Nat.le_succ _)
            rw [if_pos hcond] at he
            refine Ex.again (_, _, xa', y :: xb', _, k' + 1) ⟨rfl, rfl, rfl, rfl, trivial⟩ ⟨fun w' T'' h => (ha w' T'' h).tail hca, hb, ?_, hcb, hT, ?_, he, H⟩ (by simp)
            · simp only [capOK] at hca ⊢; omega
            · simp only [List.length_cons] at hk ⊢; omega
          · intro h49
            (try simp only [Bool.not_eq_true', Bool.not_eq_false', decide_eq_true_eq, decide_eq_false_iff_not] at h49)
            refine JL.want rfl rfl ?_
            refine JL.fieldAddr rfl Try.underlying140 rfl sh3 rfl ?_
            refine JL.want rfl rfl ?_
            refine JL.loadB 0 H rfl sh3 rfl rfl rfl ?_
            refine JL.want rfl rfl ?_
            refine JL.fieldAddr rfl Try.underlying140 rfl sh3 rfl ?_
            refine JL.want rfl rfl ?_
            refine JL.loadB 1 H rfl sh3 rfl rfl rfl ?_
            refine JL.want rfl rfl ?_
            refine JL.pure rfl rfl ?_
            refine JL.want rfl rfl ?_
            refine JL.pure rfl rfl ?_
            refine JL.cases 55 rfl ?_ ?_
            · intro h55
              (try simp only [Bool.not_eq_true', Bool.not_eq_false', decide_eq_true_eq, decide_eq_false_iff_not] at h55)
              refine JL.want rfl rfl ?_
              refine JL.fieldAddr rfl Try.underlying140 rfl sh3 rfl ?_
              refine JL.want rfl rfl ?_
              refine JL.loadB 0 H rfl sh3 rfl rfl rfl ?_
              refine JL.want rfl rfl ?_
              refine JL.fieldAddr rfl Try.underlying140 rfl sh3 rfl ?_
              refine JL.want rfl rfl ?_
              refine JL.loadB 1 H rfl sh3 rfl rfl rfl ?_
              refine JL.want rfl rfl ?_
              refine JL.pure rfl rfl ?_
              refine JL.want rfl rfl ?_
              refine JL.pure rfl rfl ?_
              refine JL.pure rfl rfl ?_
              refine JL.nil ?_
              ((repeat refine Ex.normal_block ?_); refine Ex.next ?_)
              ((repeat refine JC.seq ?_); refine JC.cond rfl ?_ ?_)
              · intro h62
                (try simp only [Bool.not_eq_true', Bool.not_eq_false', decide_eq_true_eq, decide_eq_false_iff_not] at h62)
                ((repeat refine JC.seq ?_); refine JC.region ?_)
                refine JL.pure rfl rfl ?_
                have hcond : x.Y < y.Y ∨ x.Y = y.Y ∧ x.To < y.To := by omega
                refine JL.slice1 rfl rfl Try.underlying50 sh140 (by simp) rfl ?_
                refine JL.pure rfl rfl ?_
                refine JL.nil ?_
                (repeat refine Ex.normal_block ?_)
                have H := H.drop 1
                have H := H.drop 0
                rw [bothT_cons] at he
                rw [if_neg h28] at he
                replace hT := hT.mono (Nat.le_succ _)
                rw [if_pos hcond] at he
                refine Ex.again (_, _, xa', y :: xb', _, k' + 1) ⟨rfl, rfl, rfl, rfl, trivial⟩ ⟨fun w' T'' h => (ha w' T'' h).tail hca, hb, ?_, hcb, hT, ?_, he, H⟩ (by simp)
                · simp only [capOK] at hca ⊢; omega
                · simp only [List.length_cons] at hk ⊢; omega
              · intro h62
                (try simp only [Bool.not_eq_true', Bool.not_eq_false', decide_eq_true_eq, decide_eq_false_iff_not] at h62)
                ((repeat refine JC.seq ?_); refine JC.region ?_)
                refine JL.pure rfl rfl ?_
                have hcond : ¬ (x.Y < y.Y ∨ x.Y = y.Y ∧ x.To < y.To) := by omega
                refine JL.slice1 rfl rfl Try.underlying50 sh140 (by simp) rfl ?_
                refine JL.pure rfl rfl ?_
                refine JL.nil ?_
                (repeat refine Ex.normal_block ?_)
                have H := H.drop 1
                have H := H.drop 0
                rw [bothT_cons] at he
                rw [if_neg h28] at he
                replace hT := hT.mono (Nat.le_succ _)
                rw [if_neg hcond] at he
                refine Ex.again (_, _, x :: xa', xb', _, k' + 1) ⟨rfl, rfl, rfl, rfl, trivial⟩ ⟨ha, fun w' T'' h => (hb w' T'' h).tail hcb, hca, ?_, hT, ?_, he, H⟩ (by simp)
                · simp only [capOK] at hcb ⊢; omega
                · simp only [List.length_cons] at hk ⊢; omega
            · intro h55
              (try simp only [Bool.not_eq_true', Bool.not_eq_false', decide_eq_true_eq, decide_eq_false_iff_not] at h55)
              refine JL.pass rfl rfl rfl rfl ?_
              refine JL.pass rfl rfl rfl rfl ?_
              refine JL.pass rfl rfl rfl rfl ?_
              refine JL.pass rfl rfl rfl rfl ?_
              refine JL.pass rfl rfl rfl rfl ?_
              refine JL.want rfl rfl ?_
              refine JL.pure rfl rfl ?_
              refine JL.pure rfl rfl ?_
              refine JL.nil ?_
              ((repeat refine Ex.normal_block ?_); refine Ex.next ?_)
              ((repeat refine JC.seq ?_); refine JC.cond rfl (fun h => by cases h) (fun _ => ?_))
              ((repeat refine JC.seq ?_); refine JC.region ?_)
              refine JL.pure rfl rfl ?_
              have hcond : ¬ (x.Y < y.Y ∨ x.Y = y.Y ∧ x.To < y.To) := by omega
              refine JL.slice1 rfl rfl Try.underlying50 sh140 (by simp) rfl ?_
              refine JL.pure rfl rfl ?_
              refine JL.nil ?_
              (repeat refine Ex.normal_block ?_)
              have H := H.drop 1
              have H := H.drop 0
              rw [bothT_cons] at he
              rw [if_neg h28] at he
              replace hT := hT.mono (Nat.le_succ _)
              rw [if_neg hcond] at he
              refine Ex.again (_, _, x :: xa', xb', _, k' + 1) ⟨rfl, rfl, rfl, rfl, trivial⟩ ⟨ha, fun w' T'' h => (hb w' T'' h).tail hcb, hca, ?_, hT, ?_, he, H⟩ (by simp)
              · simp only [capOK] at hcb ⊢; omega
              · simp only [List.length_cons] at hk ⊢; omega
      · intro h17
        (try simp only [Bool.not_eq_true', Bool.not_eq_false', decide_eq_true_eq, decide_eq_false_iff_not] at h17)
        have hxs : xb' = [] := by
          cases xb' with
          | nil => rfl
          | cons x r => exfalso; simp at h17
        subst hxs
        ((repeat refine JC.seq ?_); refine JC.exit ?_)
        (repeat (first | refine Ex.exit_then ?_ | refine Ex.exit_miss (by decide) ?_))
        refine Ex.exit_hit ?_
        ((repeat refine Ex.normal_block ?_); refine Ex.end_ ?_)
        refine Ex.ret0 rfl ⟨rfl, ?_⟩
        rw [he, bothT_nil2]
        exact H.drop 1
    · intro h13
      (try simp only [Bool.not_eq_true', Bool.not_eq_false', decide_eq_true_eq, decide_eq_false_iff_not] at h13)
      have hxs : xa' = [] := by
        cases xa' with
        | nil => rfl
        | cons x r => exfalso; simp at h13
      subst hxs
      refine JL.pass rfl rfl rfl rfl ?_
      refine JL.pass rfl rfl rfl rfl ?_
      refine JL.pass rfl rfl rfl rfl ?_
      refine JL.pure rfl rfl ?_
      refine JL.nil ?_
      ((repeat refine Ex.normal_block ?_); refine Ex.next ?_)
      ((repeat refine JC.seq ?_); refine JC.cond rfl (fun h => by cases h) (fun _ => ?_))
      ((repeat refine JC.seq ?_); refine JC.exit ?_)
      (repeat (first | refine Ex.exit_then ?_ | refine Ex.exit_miss (by decide) ?_))
      refine Ex.exit_hit ?_
      ((repeat refine Ex.normal_block ?_); refine Ex.end_ ?_)
      refine Ex.ret0 rfl ⟨rfl, ?_⟩
      rw [he, bothT_nil1]
      exact H.drop 1
end Go.J

namespace Go.J
open Go.RowKit Go.Proofs
set_option maxRecDepth 8000
set_option linter.unusedSimpArgs false
set_option linter.unusedVariables false
theorem rightB_len {W H : Int} {rs : List Run} (h : rightB W H rs = true) : rs.length ≤ 8192 := by
  unfold rightB at h; simp at h; exact h.2
theorem checkedB_b {g : Grid} {l : List (List Run)} (h : checkedB g l = true) : g.ok = true ∧ ∀ r ∈ l, rightB g.W g.H r = true := by
  unfold checkedB at h; simpa using h
theorem runSl {w0 w : World} {L : List HP} (H : Own w0 w L) {j : Nat} {v : Value} {l : List Run} (hj : L[j]? = some (runRow v l)) (hn : l.length ≤ 9223372036854775807) : SlR w v l := H.rowSl (enc := Run.cs) (fun _ => rfl) hj hn
theorem regRes_len (T : Tab) : (regRes T).1.length ≤ 8192 := by
  unfold regRes; split <;> simp_all
def withoutR (g : Grid) (a b : List Run) : List Run × Int := if checkedB g [a, b] then regRes (bothT g.W g.H tab0 a (othersR g b)) else ([], 2)
theorem bothT_good (g : Grid) (a b : List Run) : Tab.good g.W (a.length + b.length) (bothT g.W g.H tab0 a b) := by
  have := both_good g.H (a.length + b.length) 0 tab0 a b (tab0_good g.W)
  rw [Nat.zero_add] at this
  exact this
theorem without_c (g : Grid) (lv av bv : Value) (a b : List Run) (w : World) (hl : SlR w lv g.land) (ha : SlR w av a) (hb : SlR w bv b) (hca : capOK av) (hcb : capOK bv) :
    Calls Try.prog 57 #[g.ev lv, av, bv] w (fun e w' => ResR w w' [] (withoutR g a b) e) := by
  obtain ⟨aa, ac, rfl⟩ := ha.len
  obtain ⟨ba, bc, rfl⟩ := hb.len
  refine calls_J (args := [g.ev lv, .slice aa a.length ac, .slice ba b.length bc]) Try.func57 rfl Try.ntmps57 rfl ?_
  have H := Own.start w
  ((repeat refine JC.seq ?_); refine JC.region ?_)
  refine JL.box H rfl rfl rfl ?_
  intro b3 w1 H
  refine JL.pure rfl rfl ?_
  refine JL.pure rfl rfl ?_
  refine JL.nil ?_
  ((repeat refine Ex.normal_block ?_); refine Ex.next ?_)
  ((repeat refine JC.seq ?_); refine JC.region ?_)
  refine JL.loadB 0 H rfl sh52 rfl rfl rfl ?_
  refine JL.pure rfl rfl ?_
  refine JL.pure rfl rfl ?_
  refine JL.buildSlice H Try.underlying134 sh50 z50 rfl rfl rfl rfl rfl ?_
  intro b13 w2 H
  refine JL.callP H fb129 rfl rfl (checked_c g lv _ [(.slice aa a.length ac, a), (.slice ba b.length bc, b)] _ (hl.grow H.below) (H.blkSl1 (j := 0) (ev := Prod.fst) rfl [(.slice aa a.length ac, a), (.slice ba b.length bc, b)] rfl (by simp)) (by
    have hB := H.below
    intro p hp
    simp only [List.mem_cons, List.not_mem_nil, or_false] at hp
    rcases hp with rfl | rfl
    · exact ha.grow hB
    · exact hb.grow hB)) ?_
  intro w3 H _
  refine JL.pure rfl rfl ?_
  refine JL.nil ?_
  ((repeat refine Ex.normal_block ?_); refine Ex.next ?_)
  ((repeat refine JC.seq ?_); refine JC.region ?_)
  refine JL.pure rfl rfl ?_
  refine JL.pure rfl rfl ?_
  refine JL.nil ?_
  ((repeat refine Ex.normal_block ?_); refine Ex.next ?_)
  ((repeat refine JC.seq ?_); refine JC.cond rfl ?_ ?_)
  · intro h16
    (try simp only [Bool.not_eq_true', Bool.not_eq_false', decide_eq_true_eq, decide_eq_false_iff_not] at h16)
    have hok : checkedB g [a, b] = false := by
      cases hc : checkedB g [a, b] with
      | false => rfl
      | true => exfalso; simp [hc] at h16
    ((repeat refine JC.seq ?_); refine JC.region ?_)
    refine JL.pure rfl rfl ?_
    refine JL.pure rfl rfl ?_
    refine JL.pure rfl rfl ?_
    refine JL.nil ?_
    ((repeat refine Ex.normal_block ?_); refine Ex.next ?_)
    ((repeat refine JC.seq ?_); refine JC.ret ?_)
    (repeat (first | refine Ex.ret_then ?_ | refine Ex.ret_block ?_))
    refine Ex.ret2 rfl (.tmp rfl) (.tmp rfl) ?_
    unfold withoutR ResR; rw [hok]
    exact ⟨.slice none 0 0, by simp [hok], (((H.drop 0).drop 0).nilRow 140 3)⟩
  · intro h16
    (try simp only [Bool.not_eq_true', Bool.not_eq_false', decide_eq_true_eq, decide_eq_false_iff_not] at h16)
    have hok : checkedB g [a, b] = true := by
      cases hc : checkedB g [a, b] with
      | true => rfl
      | false => exfalso; simp [hc] at h16
    obtain ⟨hgok, hall⟩ := checkedB_b hok
    obtain ⟨hgW, hgH, hgS, hgl⟩ := Grid.ok_b hgok
    have hal := rightB_len (hall a (by simp))
    have hbl := rightB_len (hall b (by simp))
    have hol : (othersR g b).length ≤ b.length + 256 := by
      have := othN_len g.W b g.H.toNat
      unfold othersR
      omega
    ((repeat refine JC.seq ?_); refine JC.skip ?_)
    ((repeat refine Ex.normal_block ?_); refine Ex.next ?_)
    ((repeat refine JC.seq ?_); refine JC.region ?_)
    refine JL.buildA Try.underlying195 sh193 za195 rfl rfl ?_
    refine JL.box H rfl rfl rfl ?_
    intro b19 w4 H
    have H := H.newT
    refine JL.pure rfl rfl ?_
    refine JL.nil ?_
    ((repeat refine Ex.normal_block ?_); refine Ex.next ?_)
    ((repeat refine JC.seq ?_); refine JC.draw 6 H mixed (by kernel_rfl) rfl ?_)
    refine JD.pure rfl rfl ?_
    refine JD.loadB 2 rfl sh52 rfl rfl rfl ?_
    refine JD.pure rfl rfl ?_
    refine JD.loadB 2 rfl sh52 rfl rfl rfl ?_
    refine JD.pure rfl rfl ?_
    refine JD.callN (fun v => runRow v (othersR g b)) fb147 rfl rfl (fun w1 hw => others_c g lv _ b w1 (hb.grow hw.below) hcb hgH (by omega) (fun _ _ => trivial)) ?_
    refine JD.nil ?_
    intro w5 v25 H
    simp only [Option.isSome_none, Option.isSome_some, cond_false, cond_true] at H
    show JL _ _ _ _ _ _ _
    have H := H.front 1 rfl
    refine JL.call fb130 rfl rfl (both_c (k := 0) H g lv _ v25 a (othersR g b) hgW hgH (fun w' T' h => ha.grow h.below) (fun w' T' h => runSl h (j := 1) rfl (by omega)) hca (H.rowCap (j := 1) rfl) (tab0_good _) (by omega)) ?_
    rintro _ w6 ⟨rfl, H⟩
    refine ⟨_, rfl, ?_⟩
    refine JL.nil ?_
    ((repeat refine Ex.normal_block ?_); refine Ex.next ?_)
    ((repeat refine JC.seq ?_); refine JC.region ?_)
    refine JL.pure rfl rfl ?_
    refine JL.call fb131 rfl rfl (region_c2 H (bothT_good g a (othersR g b)) (by omega) hgW.2) ?_
    rintro _ w7 ⟨rv, rfl, H⟩
    refine ⟨_, rfl, ?_⟩
    refine JL.pure rfl rfl ?_
    refine JL.pure rfl rfl ?_
    refine JL.pure rfl rfl ?_
    refine JL.pure rfl rfl ?_
    refine JL.nil ?_
    ((repeat refine Ex.normal_block ?_); refine Ex.next ?_)
    ((repeat refine JC.seq ?_); refine JC.ret ?_)
    (repeat (first | refine Ex.ret_then ?_ | refine Ex.ret_block ?_))
    refine Ex.ret2 rfl (.tmp rfl) (.tmp rfl) ?_
    unfold withoutR ResR; rw [hok]
    exact ⟨_, rfl, ((H.drop 1).drop 1).drop 1⟩
end Go.J

namespace Go.J
open Go.RowKit Go.Proofs
set_option maxRecDepth 8000
set_option linter.unusedSimpArgs false
set_option linter.unusedVariables false
theorem rightFrom_mem {W H : Int} : ∀ {rs : List Run} {l : Run}, rightFrom W H l rs = true → ∀ x ∈ rs, (0 ≤ x.Y ∧ x.Y ≤ H - 1) ∧ 0 ≤ x.From ∧ x.From < x.To ∧ x.To ≤ W := by
  intro rs
  induction rs with
  | nil => intro l _ x h; cases h
  | cons y rs ih =>
    intro l h x hx
    simp only [rightFrom, Bool.and_eq_true, decide_eq_true_eq] at h
    cases hx with
    | head => obtain ⟨h1, _⟩ := h; unfold Run.ok at h1; omega
    | tail _ hx => exact ih h.2 x hx
theorem rightB_mem {W H : Int} {rs : List Run} (h : rightB W H rs = true) : ∀ x ∈ rs, (0 ≤ x.Y ∧ x.Y ≤ H - 1) ∧ 0 ≤ x.From ∧ x.From < x.To ∧ x.To ≤ W := by
  unfold rightB at h
  simp only [Bool.and_eq_true] at h
  exact rightFrom_mem h.1
theorem ediv_bd {a S M : Int} (hS : 1 ≤ S) (hM : 0 ≤ M) (h1 : -M ≤ a) (h2 : a ≤ M) : -M ≤ a / S ∧ a / S ≤ M := by
  have hMS : M ≤ M * S := by
    have := Int.mul_le_mul_of_nonneg_left hS hM
    omega
  constructor
  · rw [Int.le_ediv_iff_mul_le (by omega), Int.neg_mul]; omega
  · exact Int.ediv_le_of_le_mul (by omega) (by omega)
def growRow (W H a b lo : Int) (T : Tab) (n : Nat) : Tab := (List.range n).foldl (fun T (k : Nat) => T.add W H (lo + k) a b) T
theorem growRow_succ (W H a b lo : Int) (T : Tab) (n : Nat) : growRow W H a b lo T (n + 1) = (growRow W H a b lo T n).add W H (lo + n) a b := by
  unfold growRow; rw [List.range_succ, List.foldl_append]; rfl
theorem growRow_good {W H a b lo : Int} {T : Tab} {k : Nat} (h : Tab.good W k T) : ∀ n, Tab.good W (k + n) (growRow W H a b lo T n) := by
  intro n
  induction n with
  | zero => exact h
  | succ n ih => rw [growRow_succ]; exact ih.add _ _ _ _
structure Lead where
  w : Int
  e : Int
  s : Int
  n : Int
def growCnt (g : Grid) (l : Lead) (x : Run) : Nat := (min (x.Y + l.n) (g.H - 1) - max 0 (x.Y + l.s) + 1).toNat
def grow1 (g : Grid) (l : Lead) (T : Tab) (x : Run) : Tab := growRow g.W g.H (x.From + l.w) (x.To + l.e) (max 0 (x.Y + l.s)) T (growCnt g l x)
def growT (g : Grid) (l : Lead) (rs : List Run) : Tab := rs.foldl (grow1 g l) tab0
def offB (g : Grid) (l : Lead) (x : Run) : Bool := decide (x.From + l.w < 0) || decide (x.To + l.e > g.W) || decide (x.Y + l.s < 0) || decide (x.Y + l.n ≥ g.H)
theorem growCnt_le {g : Grid} (hH : 1 ≤ g.H ∧ g.H ≤ 256) (l : Lead) (x : Run) : growCnt g l x ≤ 256 := by unfold growCnt; omega
theorem growT_take {g : Grid} {l : Lead} {rs : List Run} {k : Nat} (hk : k < rs.length) : growT g l (rs.take (k + 1)) = grow1 g l (growT g l (rs.take k)) rs[k] := by
  unfold growT; rw [List.take_succ_eq_append_getElem hk, List.foldl_append]; rfl
theorem growT_good {g : Grid} (hH : 1 ≤ g.H ∧ g.H ≤ 256) (l : Lead) (rs : List Run) : ∀ k, k ≤ rs.length → Tab.good g.W (k * 256) (growT g l (rs.take k)) := by
  intro k
  induction k with
  | zero => intro _; exact tab0_good _
  | succ k ih =>
    intro hk
    rw [growT_take hk]
    have := growRow_good (W := g.W) (H := g.H) (a := rs[k].From + l.w) (b := rs[k].To + l.e) (lo := max 0 (rs[k].Y + l.s)) (ih (by omega)) (growCnt g l rs[k])
    exact this.mono (by have := growCnt_le hH l rs[k]; omega)
def leadOf (g : Grid) (p : Push) : Lead := ⟨p.Low.X / g.S, (g.S - 1 + p.High.X) / g.S, p.Low.Y / g.S, (g.S - 1 + p.High.Y) / g.S⟩
def growR (g : Grid) (r : List Run) (p : Push) : List Run × Bool × Int :=
  if checkedB g [r] && p.ok then
    if (regRes (growT g (leadOf g p) r)).2 = 0 then ((regRes (growT g (leadOf g p) r)).1, r.any (offB g (leadOf g p)), 0) else ([], false, (regRes (growT g (leadOf g p) r)).2)
  else ([], false, 2)
theorem grow_c (g : Grid) (lv rv : Value) (r : List Run) (p : Push) (w : World) (hl : SlR w lv g.land) (hr : SlR w rv r) :
    Calls Try.prog 43 #[g.ev lv, rv, p.ev] w (fun e w' => ∃ ov, e = .returned (.tuple #[ov, .bool (growR g r p).2.1, .int .i64 (growR g r p).2.2]) ∧ Own w w' [runRow ov (growR g r p).1]) := by
  obtain ⟨ra, rc, rfl⟩ := hr.len
  refine calls_J (args := [g.ev lv, .slice ra r.length rc, p.ev]) Try.func43 rfl Try.ntmps43 rfl ?_
  have H := Own.start w
  ((repeat refine JC.seq ?_); refine JC.region ?_)
  refine JL.box H rfl rfl rfl ?_
  intro b3 w1 H
  refine JL.box H rfl rfl rfl ?_
  intro b5 w2 H
  refine JL.pure rfl rfl ?_
  refine JL.pure rfl rfl ?_
  refine JL.pure rfl rfl ?_
  refine JL.nil ?_
  ((repeat refine Ex.normal_block ?_); refine Ex.next ?_)
  ((repeat refine JC.seq ?_); refine JC.region ?_)
  refine JL.loadB 1 H rfl sh52 rfl rfl rfl ?_
  refine JL.pure rfl rfl ?_
  refine JL.buildSlice H Try.underlying134 sh50 z50 rfl rfl rfl rfl rfl ?_
  intro b19 w3 H
  refine JL.callP H fb129 rfl rfl (checked_c g lv _ [(.slice ra r.length rc, r)] _ (hl.grow H.below) (H.blkSl1 (j := 0) (ev := Prod.fst) rfl [(.slice ra r.length rc, r)] rfl (by simp)) (by
    have hB := H.below
    intro q hq
    simp only [List.mem_cons, List.not_mem_nil, or_false] at hq
    subst hq
    exact hr.grow hB)) ?_
  intro w4 H _
  refine JL.pure rfl rfl ?_
  refine JL.pure rfl rfl ?_
  refine JL.cases 22 rfl ?_ ?_
  · intro h22
    (try simp only [Bool.not_eq_true', Bool.not_eq_false', decide_eq_true_eq, decide_eq_false_iff_not] at h22)
    have hok : checkedB g [r] = false := by
      cases hc : checkedB g [r] with
      | false => rfl
      | true => exfalso; simp [hc] at h22
    refine JL.pass rfl rfl rfl rfl ?_
    refine JL.pass rfl rfl rfl rfl ?_
    refine JL.pass rfl rfl rfl rfl ?_
    refine JL.pure rfl rfl ?_
    refine JL.nil ?_
    ((repeat refine Ex.normal_block ?_); refine Ex.next ?_)
    ((repeat refine JC.seq ?_); refine JC.cond rfl (fun _ => ?_) (fun h => by cases h))
    ((repeat refine JC.seq ?_); refine JC.region ?_)
    refine JL.pure rfl rfl ?_
    refine JL.pure rfl rfl ?_
    refine JL.pure rfl rfl ?_
    refine JL.nil ?_
    ((repeat refine Ex.normal_block ?_); refine Ex.next ?_)
    ((repeat refine JC.seq ?_); refine JC.ret ?_)
    (repeat (first | refine Ex.ret_then ?_ | refine Ex.ret_block ?_))
    refine Ex.ret3 rfl (.tmp rfl) (.tmp rfl) (.tmp rfl) ⟨.slice none 0 0, ?_, ?_⟩
    · unfold growR; rw [hok]; simp
    · unfold growR; rw [hok]; exact (((H.drop 0).drop 0).drop 0).nilRow 140 3
  · intro h22
    (try simp only [Bool.not_eq_true', Bool.not_eq_false', decide_eq_true_eq, decide_eq_false_iff_not] at h22)
    have hok : checkedB g [r] = true := by
      cases hc : checkedB g [r] with
      | true => rfl
      | false => exfalso; simp [hc] at h22
    obtain ⟨hgok, hall⟩ := checkedB_b hok
    obtain ⟨hgW, hgH, hgS, hgl⟩ := Grid.ok_b hgok
    have hrB := hall r (by simp)
    have hrl := rightB_len hrB
    have hrm := rightB_mem hrB
    refine JL.want rfl rfl ?_
    refine JL.loadB 1 H rfl sh54 rfl rfl rfl ?_
    refine JL.want rfl rfl ?_
    refine JL.callP H fb132 rfl rfl (pushed_c p _) ?_
    intro w5 H _
    refine JL.want rfl rfl ?_
    refine JL.pure rfl rfl ?_
    refine JL.pure rfl rfl ?_
    refine JL.nil ?_
    ((repeat refine Ex.normal_block ?_); refine Ex.next ?_)
    ((repeat refine JC.seq ?_); refine JC.cond rfl ?_ ?_)
    · intro h26
      (try simp only [Bool.not_eq_true', Bool.not_eq_false', decide_eq_true_eq, decide_eq_false_iff_not] at h26)
      
      ((repeat refine JC.seq ?_); refine JC.region ?_)
      refine JL.pure rfl rfl ?_
      refine JL.pure rfl rfl ?_
      refine JL.pure rfl rfl ?_
      refine JL.nil ?_
      ((repeat refine Ex.normal_block ?_); refine Ex.next ?_)
      ((repeat refine JC.seq ?_); refine JC.ret ?_)
      (repeat (first | refine Ex.ret_then ?_ | refine Ex.ret_block ?_))
      refine Ex.ret3 rfl (.tmp rfl) (.tmp rfl) (.tmp rfl) ⟨.slice none 0 0, ?_, ?_⟩
      · have hpok : p.ok = false := by simpa using h26
        unfold growR; rw [hok, hpok]; simp
      · have hpok : p.ok = false := by simpa using h26
        unfold growR; rw [hok, hpok]; exact (((H.drop 0).drop 0).drop 0).nilRow 140 3
    · intro h26
      (try simp only [Bool.not_eq_true', Bool.not_eq_false', decide_eq_true_eq, decide_eq_false_iff_not] at h26)
      have hpok : p.ok = true := by simpa using h26
      have hpb : (-16777216 ≤ p.Low.X ∧ p.Low.X ≤ p.High.X) ∧ (-16777216 ≤ p.Low.Y ∧ p.Low.Y ≤ p.High.Y) ∧ max p.High.X p.High.Y ≤ 16777216 := by
        unfold Push.ok at hpok
        simpa [and_assoc] using hpok
      have hw1 := ediv_bd (a := p.Low.X) (M := 100000000) hgS.1 (by omega) (by omega) (by omega)
      have hw2 := ediv_bd (a := g.S - 1 + p.High.X) (M := 100000000) hgS.1 (by omega) (by omega) (by omega)
      have hw3 := ediv_bd (a := p.Low.Y) (M := 100000000) hgS.1 (by omega) (by omega) (by omega)
      have hw4 := ediv_bd (a := g.S - 1 + p.High.Y) (M := 100000000) hgS.1 (by omega) (by omega) (by omega)
      obtain ⟨l, hl'⟩ : ∃ l, l = leadOf g p := ⟨_, rfl⟩
      have hlw : p.Low.X / g.S = l.w := by rw [hl']; rfl
      have hle : (g.S - 1 + p.High.X) / g.S = l.e := by rw [hl']; rfl
      have hls : p.Low.Y / g.S = l.s := by rw [hl']; rfl
      have hln : (g.S - 1 + p.High.Y) / g.S = l.n := by rw [hl']; rfl
      rw [hlw] at hw1
      rw [hle] at hw2
      rw [hls] at hw3
      rw [hln] at hw4
      ((repeat refine JC.seq ?_); refine JC.skip ?_)
      ((repeat refine Ex.normal_block ?_); refine Ex.next ?_)
      ((repeat refine JC.seq ?_); refine JC.region ?_)
      refine JL.loadB 2 H rfl sh52 rfl rfl rfl ?_
      refine JL.fieldAddr rfl Try.underlying54 rfl sh23 rfl ?_
      refine JL.fieldAddr rfl Try.underlying23 rfl sh3 rfl ?_
      refine JL.loadB 1 H rfl sh3 rfl rfl rfl ?_
      refine JL.fieldAddr rfl Try.underlying54 rfl sh23 rfl ?_
      refine JL.fieldAddr rfl Try.underlying23 rfl sh3 rfl ?_
      refine JL.loadB 1 H rfl sh3 rfl rfl rfl ?_
      refine JL.callP H fb133 rfl rfl (leads_c g lv _ _ _ hgS (by omega) (by omega)) ?_
      intro w6 H _
      (try rw [hlw, hle])
      (try rw [hls, hln])
      refine JL.pure rfl rfl ?_
      refine JL.pure rfl rfl ?_
      refine JL.pure rfl rfl ?_
      refine JL.pure rfl rfl ?_
      refine JL.pure rfl rfl ?_
      refine JL.nil ?_
      ((repeat refine Ex.normal_block ?_); refine Ex.next ?_)
      ((repeat refine JC.seq ?_); refine JC.region ?_)
      refine JL.loadB 2 H rfl sh52 rfl rfl rfl ?_
      refine JL.fieldAddr rfl Try.underlying54 rfl sh23 rfl ?_
      refine JL.fieldAddr rfl Try.underlying23 rfl sh3 rfl ?_
      refine JL.loadB 1 H rfl sh3 rfl rfl rfl ?_
      refine JL.fieldAddr rfl Try.underlying54 rfl sh23 rfl ?_
      refine JL.fieldAddr rfl Try.underlying23 rfl sh3 rfl ?_
      refine JL.loadB 1 H rfl sh3 rfl rfl rfl ?_
      refine JL.callP H fb133 rfl rfl (leads_c g lv _ _ _ hgS (by omega) (by omega)) ?_
      intro w7 H _
      (try rw [hlw, hle])
      (try rw [hls, hln])
      refine JL.pure rfl rfl ?_
      refine JL.pure rfl rfl ?_
      refine JL.pure rfl rfl ?_
      refine JL.pure rfl rfl ?_
      refine JL.pure rfl rfl ?_
      refine JL.nil ?_
      ((repeat refine Ex.normal_block ?_); refine Ex.next ?_)
      ((repeat refine JC.seq ?_); refine JC.region ?_)
      refine JL.buildA Try.underlying195 sh193 za195 rfl rfl ?_
      refine JL.box H rfl rfl rfl ?_
      intro b50 w8 H
      refine JL.pure rfl rfl ?_
      refine JL.nil ?_
      ((repeat refine Ex.normal_block ?_); refine Ex.next ?_)
      ((repeat refine JC.seq ?_); refine JC.region ?_)
      have H := H.newT
      refine JL.pure rfl rfl ?_
      refine JL.len rfl Try.underlying50 rfl ?_
      refine JL.pure rfl rfl ?_
      refine JL.nil ?_
      ((repeat refine Ex.normal_block ?_); refine Ex.next ?_)
      ((repeat refine JC.seq ?_); refine JC.block ?_)
      ((repeat refine JC.seq ?_); refine JC.loop (ι := Nat) (fun k => [(9, .int .i64 l.w), (10, .int .i64 l.e), (11, .int .i64 l.s), (12, .int .i64 l.n), (3, .pointer (some ⟨b3, 0, none⟩)), (13, .pointer (some ⟨b50, 0, none⟩)), (51, .slice ra r.length rc), (52, .int .i64 r.length), (53, .int .i64 k), (7, .bool ((r.take k).any (offB g l)))])
        (fun k wr => k ≤ r.length ∧ Own w wr [tbl b50 (growT g l (r.take k)), blk b3 (.cells ⟨[.int .i64 g.W, .int .i64 g.H, .int .i64 g.S, lv]⟩ 52 (0, 0))])
        (fun k => r.length - k) 0 ?_ ?_ ?_)
      · exact ⟨rfl, rfl, rfl, rfl, rfl, rfl, rfl, rfl, rfl, rfl, trivial⟩
      · exact ⟨Nat.zero_le _, ((H.drop 1).drop 1)⟩
      · rintro k wr ⟨hk, H⟩
        have hgd := growT_good hgH l r k hk
        ((repeat refine JC.seq ?_); refine JC.region ?_)
        refine JL.pure rfl rfl ?_
        refine JL.nil ?_
        ((repeat refine Ex.normal_block ?_); refine Ex.next ?_)
        ((repeat refine JC.seq ?_); refine JC.cond rfl ?_ ?_)
        · intro h54
          (try simp only [Bool.not_eq_true', Bool.not_eq_false', decide_eq_true_eq, decide_eq_false_iff_not] at h54)
          have h54 : k < r.length := by omega
          have hx : r[k]? = some r[k] := by simp [h54]
          have hxm := hrm _ (List.getElem_mem h54)
          obtain ⟨_, a', c', he', ha'⟩ := id hr
          cases he'
          obtain ⟨β, off, hra, hβ, hc⟩ := ha'.resolve_left (by rintro rfl; simp at h54)
          ((repeat refine JC.seq ?_); refine JC.skip ?_)
          ((repeat refine Ex.normal_block ?_); refine Ex.next ?_)
          ((repeat refine JC.seq ?_); refine JC.block ?_)
          ((repeat refine JC.seq ?_); refine JC.region ?_)
          refine JL.indexS k (congrArg (fun a => some (Value.slice a r.length rc)) hra) rfl Try.underlying50 sh140 rfl h54 rfl ?_
          refine JL.load rfl sh140 ((hc k _ hx).grow hβ H.below) rfl ?_
          refine JL.alloc H z140 rfl ?_
          intro b15 w9 H
          refine JL.storeB 0 H rfl rfl sh140 rfl rfl rfl rfl rfl ?_
          intro w10 H
          refine JL.nil ?_
          ((repeat refine Ex.normal_block ?_); refine Ex.next ?_)
          ((repeat refine JC.seq ?_); refine JC.regionTo ([(9, .int .i64 l.w), (10, .int .i64 l.e), (11, .int .i64 l.s), (12, .int .i64 l.n), (3, .pointer (some ⟨b3, 0, none⟩)), (13, .pointer (some ⟨b50, 0, none⟩)), (51, .slice ra r.length rc), (52, .int .i64 r.length), (53, .int .i64 k), (15, .pointer (some ⟨b15, 0, none⟩)), (7, .bool ((r.take k).any (offB g l) || offB g l r[k]))]) (fun wr => Own w wr [blk b15 (.cells ⟨[.int .i64 r[k].Y, .int .i64 r[k].From, .int .i64 r[k].To]⟩ 140 (0, 0)), tbl b50 (growT g l (r.take k)), blk b3 (.cells ⟨[.int .i64 g.W, .int .i64 g.H, .int .i64 g.S, lv]⟩ 52 (0, 0))]) ?_ ?_)
          ·
            refine JL.pure rfl rfl ?_
            refine JL.pure rfl rfl ?_
            refine JL.cases 58 rfl ?_ ?_
            · intro h58
              (try simp only [Bool.not_eq_true', Bool.not_eq_false', decide_eq_true_eq, decide_eq_false_iff_not] at h58)
              refine JL.pass rfl rfl rfl rfl ?_
              refine JL.pass rfl rfl rfl rfl ?_
              refine JL.pass rfl rfl rfl rfl ?_
              refine JL.pass rfl rfl rfl rfl ?_
              refine JL.pass rfl rfl rfl rfl ?_
              refine JL.pure rfl rfl ?_
              refine JL.pure rfl rfl ?_
              refine JL.pass rfl rfl rfl rfl ?_
              refine JL.pass rfl rfl rfl rfl ?_
              refine JL.pass rfl rfl rfl rfl ?_
              refine JL.pass rfl rfl rfl rfl ?_
              refine JL.pass rfl rfl rfl rfl ?_
              refine JL.pass rfl rfl rfl rfl ?_
              refine JL.pass rfl rfl rfl rfl ?_
              refine JL.pure rfl rfl ?_
              refine JL.pure rfl rfl ?_
              refine JL.pass rfl rfl rfl rfl ?_
              refine JL.pass rfl rfl rfl rfl ?_
              refine JL.pass rfl rfl rfl rfl ?_
              refine JL.pass rfl rfl rfl rfl ?_
              refine JL.pass rfl rfl rfl rfl ?_
              refine JL.pure rfl rfl ?_
              refine JL.pure rfl rfl ?_
              refine JL.pass rfl rfl rfl rfl ?_
              refine JL.pass rfl rfl rfl rfl ?_
              refine JL.pass rfl rfl rfl rfl ?_
              refine JL.pass rfl rfl rfl rfl ?_
              refine JL.pass rfl rfl rfl rfl ?_
              refine JL.pass rfl rfl rfl rfl ?_
              refine JL.pass rfl rfl rfl rfl ?_
              refine JL.pure rfl rfl ?_
              refine JL.pure rfl rfl ?_
              refine JL.nil ?_
              refine Ex.to ⟨rfl, rfl, rfl, rfl, rfl, rfl, rfl, rfl, rfl, rfl, ?_, trivial⟩ H
              show some (Value.bool _) = some (Value.bool _)
              clear hl' hlw hle hls hln
              simp only [h58]
              unfold offB
              simp [*]
            · intro h58
              (try simp only [Bool.not_eq_true', Bool.not_eq_false', decide_eq_true_eq, decide_eq_false_iff_not] at h58)
              refine JL.want rfl rfl ?_
              refine JL.fieldAddr rfl Try.underlying140 rfl sh3 rfl ?_
              refine JL.want rfl rfl ?_
              refine JL.loadB 0 H rfl sh3 rfl rfl rfl ?_
              refine JL.want rfl rfl ?_
              refine JL.pure rfl rfl ?_
              refine JL.want rfl rfl ?_
              refine JL.arith rfl (by unfold In64; omega) rfl ?_
              refine JL.want rfl rfl ?_
              refine JL.pure rfl rfl ?_
              refine JL.pure rfl rfl ?_
              refine JL.pure rfl rfl ?_
              refine JL.cases 65 rfl ?_ ?_
              · intro h65
                (try simp only [Bool.not_eq_true', Bool.not_eq_false', decide_eq_true_eq, decide_eq_false_iff_not] at h65)
                refine JL.pass rfl rfl rfl rfl ?_
                refine JL.pass rfl rfl rfl rfl ?_
                refine JL.pass rfl rfl rfl rfl ?_
                refine JL.pass rfl rfl rfl rfl ?_
                refine JL.pass rfl rfl rfl rfl ?_
                refine JL.pass rfl rfl rfl rfl ?_
                refine JL.pass rfl rfl rfl rfl ?_
                refine JL.pure rfl rfl ?_
                refine JL.pure rfl rfl ?_
                refine JL.pass rfl rfl rfl rfl ?_
                refine JL.pass rfl rfl rfl rfl ?_
                refine JL.pass rfl rfl rfl rfl ?_
                refine JL.pass rfl rfl rfl rfl ?_
                refine JL.pass rfl rfl rfl rfl ?_
                refine JL.pure rfl rfl ?_
                refine JL.pure rfl rfl ?_
                refine JL.pass rfl rfl rfl rfl ?_
                refine JL.pass rfl rfl rfl rfl ?_
                refine JL.pass rfl rfl rfl rfl ?_
                refine JL.pass rfl rfl rfl rfl ?_
                refine JL.pass rfl rfl rfl rfl ?_
                refine JL.pass rfl rfl rfl rfl ?_
                refine JL.pass rfl rfl rfl rfl ?_
                refine JL.pure rfl rfl ?_
                refine JL.pure rfl rfl ?_
                refine JL.nil ?_
                refine Ex.to ⟨rfl, rfl, rfl, rfl, rfl, rfl, rfl, rfl, rfl, rfl, ?_, trivial⟩ H
                show some (Value.bool _) = some (Value.bool _)
                clear hl' hlw hle hls hln
                simp only [h58]
                unfold offB
                simp [*]
              · intro h65
                (try simp only [Bool.not_eq_true', Bool.not_eq_false', decide_eq_true_eq, decide_eq_false_iff_not] at h65)
                refine JL.want rfl rfl ?_
                refine JL.fieldAddr rfl Try.underlying140 rfl sh3 rfl ?_
                refine JL.want rfl rfl ?_
                refine JL.loadB 0 H rfl sh3 rfl rfl rfl ?_
                refine JL.want rfl rfl ?_
                refine JL.pure rfl rfl ?_
                refine JL.want rfl rfl ?_
                refine JL.arith rfl (by unfold In64; omega) rfl ?_
                refine JL.want rfl rfl ?_
                refine JL.fieldAddr rfl Try.underlying52 rfl sh3 rfl ?_
                refine JL.want rfl rfl ?_
                refine JL.loadB 2 H rfl sh3 rfl rfl rfl ?_
                refine JL.want rfl rfl ?_
                refine JL.pure rfl rfl ?_
                refine JL.pure rfl rfl ?_
                refine JL.pure rfl rfl ?_
                refine JL.cases 74 rfl ?_ ?_
                · intro h74
                  (try simp only [Bool.not_eq_true', Bool.not_eq_false', decide_eq_true_eq, decide_eq_false_iff_not] at h74)
                  refine JL.pass rfl rfl rfl rfl ?_
                  refine JL.pass rfl rfl rfl rfl ?_
                  refine JL.pass rfl rfl rfl rfl ?_
                  refine JL.pass rfl rfl rfl rfl ?_
                  refine JL.pass rfl rfl rfl rfl ?_
                  refine JL.pure rfl rfl ?_
                  refine JL.pure rfl rfl ?_
                  refine JL.pass rfl rfl rfl rfl ?_
                  refine JL.pass rfl rfl rfl rfl ?_
                  refine JL.pass rfl rfl rfl rfl ?_
                  refine JL.pass rfl rfl rfl rfl ?_
                  refine JL.pass rfl rfl rfl rfl ?_
                  refine JL.pass rfl rfl rfl rfl ?_
                  refine JL.pass rfl rfl rfl rfl ?_
                  refine JL.pure rfl rfl ?_
                  refine JL.pure rfl rfl ?_
                  refine JL.nil ?_
                  refine Ex.to ⟨rfl, rfl, rfl, rfl, rfl, rfl, rfl, rfl, rfl, rfl, ?_, trivial⟩ H
                  show some (Value.bool _) = some (Value.bool _)
                  clear hl' hlw hle hls hln
                  simp only [h58]
                  unfold offB
                  simp [*]
                · intro h74
                  (try simp only [Bool.not_eq_true', Bool.not_eq_false', decide_eq_true_eq, decide_eq_false_iff_not] at h74)
                  refine JL.want rfl rfl ?_
                  refine JL.fieldAddr rfl Try.underlying140 rfl sh3 rfl ?_
                  refine JL.want rfl rfl ?_
                  refine JL.loadB 0 H rfl sh3 rfl rfl rfl ?_
                  refine JL.want rfl rfl ?_
                  refine JL.pure rfl rfl ?_
                  refine JL.want rfl rfl ?_
                  refine JL.arith rfl (by unfold In64; omega) rfl ?_
                  refine JL.want rfl rfl ?_
                  refine JL.pure rfl rfl ?_
                  refine JL.pure rfl rfl ?_
                  refine JL.pure rfl rfl ?_
                  refine JL.cases 81 rfl ?_ ?_
                  · intro h81
                    (try simp only [Bool.not_eq_true', Bool.not_eq_false', decide_eq_true_eq, decide_eq_false_iff_not] at h81)
                    refine JL.pass rfl rfl rfl rfl ?_
                    refine JL.pass rfl rfl rfl rfl ?_
                    refine JL.pass rfl rfl rfl rfl ?_
                    refine JL.pass rfl rfl rfl rfl ?_
                    refine JL.pass rfl rfl rfl rfl ?_
                    refine JL.pass rfl rfl rfl rfl ?_
                    refine JL.pass rfl rfl rfl rfl ?_
                    refine JL.pure rfl rfl ?_
                    refine JL.pure rfl rfl ?_
                    refine JL.nil ?_
                    refine Ex.to ⟨rfl, rfl, rfl, rfl, rfl, rfl, rfl, rfl, rfl, rfl, ?_, trivial⟩ H
                    show some (Value.bool _) = some (Value.bool _)
                    clear hl' hlw hle hls hln
                    simp only [h58]
                    unfold offB
                    simp [*]
                  · intro h81
                    (try simp only [Bool.not_eq_true', Bool.not_eq_false', decide_eq_true_eq, decide_eq_false_iff_not] at h81)
                    refine JL.want rfl rfl ?_
                    refine JL.fieldAddr rfl Try.underlying140 rfl sh3 rfl ?_
                    refine JL.want rfl rfl ?_
                    refine JL.loadB 0 H rfl sh3 rfl rfl rfl ?_
                    refine JL.want rfl rfl ?_
                    refine JL.pure rfl rfl ?_
                    refine JL.want rfl rfl ?_
                    refine JL.arith rfl (by unfold In64; omega) rfl ?_
                    refine JL.want rfl rfl ?_
                    refine JL.fieldAddr rfl Try.underlying52 rfl sh3 rfl ?_
                    refine JL.want rfl rfl ?_
                    refine JL.loadB 2 H rfl sh3 rfl rfl rfl ?_
                    refine JL.want rfl rfl ?_
                    refine JL.pure rfl rfl ?_
                    refine JL.pure rfl rfl ?_
                    refine JL.pure rfl rfl ?_
                    refine JL.nil ?_
                    refine Ex.to ⟨rfl, rfl, rfl, rfl, rfl, rfl, rfl, rfl, rfl, rfl, ?_, trivial⟩ H
                    show some (Value.bool _) = some (Value.bool _)
                    clear hl' hlw hle hls hln
                    simp only [h58]
                    unfold offB
                    simp [*]
          · intro wc H
            ((repeat refine Ex.normal_block ?_); refine Ex.next ?_)
            ((repeat refine JC.seq ?_); refine JC.region ?_)
            refine JL.fieldAddr rfl Try.underlying140 rfl sh3 rfl ?_
            refine JL.loadB 0 H rfl sh3 rfl rfl rfl ?_
            refine JL.pure rfl rfl ?_
            refine JL.arith rfl (by unfold In64; omega) rfl ?_
            refine JL.pure rfl rfl ?_
            refine JL.pure rfl rfl ?_
            refine JL.nil ?_
            ((repeat refine Ex.normal_block ?_); refine Ex.next ?_)
            ((repeat refine JC.seq ?_); refine JC.block ?_)
            ((repeat refine JC.seq ?_); refine JC.loop (ι := Nat) (fun j => [(9, .int .i64 l.w), (10, .int .i64 l.e), (11, .int .i64 l.s), (12, .int .i64 l.n), (3, .pointer (some ⟨b3, 0, none⟩)), (13, .pointer (some ⟨b50, 0, none⟩)), (51, .slice ra r.length rc), (52, .int .i64 r.length), (53, .int .i64 k), (15, .pointer (some ⟨b15, 0, none⟩)), (7, .bool ((r.take k).any (offB g l) || offB g l r[k])), (16, .int .i64 (max 0 (r[k].Y + l.s) + j))])
              (fun j wr => j ≤ growCnt g l r[k] ∧ Own w wr [tbl b50 (growRow g.W g.H (r[k].From + l.w) (r[k].To + l.e) (max 0 (r[k].Y + l.s)) (growT g l (r.take k)) j), blk b15 (.cells ⟨[.int .i64 r[k].Y, .int .i64 r[k].From, .int .i64 r[k].To]⟩ 140 (0, 0)), blk b3 (.cells ⟨[.int .i64 g.W, .int .i64 g.H, .int .i64 g.S, lv]⟩ 52 (0, 0))])
              (fun j => growCnt g l r[k] - j) 0 ?_ ?_ ?_)
            · exact ⟨rfl, rfl, rfl, rfl, rfl, rfl, rfl, rfl, rfl, rfl, rfl, by simp [Fr.get, Fr.put], trivial⟩
            · exact ⟨Nat.zero_le _, H.front 1 rfl⟩
            · rintro j wr ⟨hj, H⟩
              have hgd2 := growRow_good (W := g.W) (H := g.H) (a := r[k].From + l.w) (b := r[k].To + l.e) (lo := max 0 (r[k].Y + l.s)) hgd j
              have hcl := growCnt_le hgH l r[k]
              ((repeat refine JC.seq ?_); refine JC.region ?_)
              refine JL.pure rfl rfl ?_
              refine JL.fieldAddr rfl Try.underlying140 rfl sh3 rfl ?_
              refine JL.loadB 1 H rfl sh3 rfl rfl rfl ?_
              refine JL.pure rfl rfl ?_
              refine JL.arith rfl (by unfold In64; omega) rfl ?_
              refine JL.fieldAddr rfl Try.underlying52 rfl sh3 rfl ?_
              refine JL.loadB 2 H rfl sh3 rfl rfl rfl ?_
              refine JL.arith rfl (by unfold In64; omega) rfl ?_
              refine JL.pure rfl rfl ?_
              refine JL.pure rfl rfl ?_
              refine JL.nil ?_
              ((repeat refine Ex.normal_block ?_); refine Ex.next ?_)
              ((repeat refine JC.seq ?_); refine JC.cond rfl ?_ ?_)
              · intro h104
                (try simp only [Bool.not_eq_true', Bool.not_eq_false', decide_eq_true_eq, decide_eq_false_iff_not] at h104)
                ((repeat refine JC.seq ?_); refine JC.skip ?_)
                ((repeat refine Ex.normal_block ?_); refine Ex.next ?_)
                ((repeat refine JC.seq ?_); refine JC.block ?_)
                ((repeat refine JC.seq ?_); refine JC.region ?_)
                refine JL.pure rfl rfl ?_
                refine JL.loadB 2 H rfl sh52 rfl rfl rfl ?_
                refine JL.pure rfl rfl ?_
                refine JL.fieldAddr rfl Try.underlying140 rfl sh3 rfl ?_
                refine JL.loadB 1 H rfl sh3 rfl rfl rfl ?_
                refine JL.pure rfl rfl ?_
                refine JL.arith rfl (by unfold In64; omega) rfl ?_
                refine JL.fieldAddr rfl Try.underlying140 rfl sh3 rfl ?_
                refine JL.loadB 1 H rfl sh3 rfl rfl rfl ?_
                refine JL.pure rfl rfl ?_
                refine JL.arith rfl (by unfold In64; omega) rfl ?_
                refine JL.call fb134 rfl rfl (add_c H _ _ _ _ _ _ _ hgH hgW.2 (fun l hl => by have := hgd2.le l hl; omega)) ?_
                rintro _ w11 ⟨rfl, H⟩
                refine ⟨_, rfl, ?_⟩
                refine JL.nil ?_
                ((repeat refine Ex.normal_block ?_); refine Ex.next ?_)
                ((repeat refine JC.seq ?_); refine JC.region ?_)
                refine JL.pure rfl rfl ?_
                refine JL.arith rfl (by unfold In64; omega) rfl ?_
                refine JL.pure rfl rfl ?_
                refine JL.nil ?_
                (repeat refine Ex.normal_block ?_)
                rw [← growRow_succ] at H
                refine Ex.again (j + 1) ⟨rfl, rfl, rfl, rfl, rfl, rfl, rfl, rfl, rfl, rfl, rfl, ?_, trivial⟩ ⟨by unfold growCnt at hj ⊢; omega, H⟩ (by unfold growCnt at hj ⊢; omega)
                show some (Value.int .i64 _) = some (Value.int .i64 _)
                congr 2; omega
              · intro h104
                (try simp only [Bool.not_eq_true', Bool.not_eq_false', decide_eq_true_eq, decide_eq_false_iff_not] at h104)
                ((repeat refine JC.seq ?_); refine JC.exit ?_)
                (repeat (first | refine Ex.exit_then ?_ | refine Ex.exit_miss (by decide) ?_))
                refine Ex.exit_hit ?_
                ((repeat refine Ex.normal_block ?_); refine Ex.next ?_)
                ((repeat refine JC.seq ?_); refine JC.region ?_)
                refine JL.arith rfl (by unfold In64; omega) rfl ?_
                refine JL.pure rfl rfl ?_
                refine JL.nil ?_
                (repeat refine Ex.normal_block ?_)
                have hjj : j = growCnt g l r[k] := by unfold growCnt at hj ⊢; omega
                subst hjj
                have hg1 : growRow g.W g.H (r[k].From + l.w) (r[k].To + l.e) (max 0 (r[k].Y + l.s)) (growT g l (r.take k)) (growCnt g l r[k]) = growT g l (r.take (k + 1)) := (growT_take h54).symm
                rw [hg1] at H
                refine Ex.again (k + 1) ⟨rfl, rfl, rfl, rfl, rfl, rfl, rfl, rfl, rfl, ?_, trivial⟩ ⟨h54, H.drop 1⟩ (by omega)
                show some (Value.bool _) = some (Value.bool _)
                rw [List.take_succ_eq_append_getElem h54, List.any_append]
                simp
        · intro h54
          (try simp only [Bool.not_eq_true', Bool.not_eq_false', decide_eq_true_eq, decide_eq_false_iff_not] at h54)
          
          ((repeat refine JC.seq ?_); refine JC.exit ?_)
          (repeat (first | refine Ex.exit_then ?_ | refine Ex.exit_miss (by decide) ?_))
          refine Ex.exit_hit ?_
          ((repeat refine Ex.normal_block ?_); refine Ex.next ?_)
          ((repeat refine JC.seq ?_); refine JC.region ?_)
          refine JL.pure rfl rfl ?_
          have hkk : k = r.length := by omega
          subst hkk
          refine JL.call fb131 rfl rfl (region_c2 H hgd (by omega) hgW.2) ?_
          rintro _ w12 ⟨ov, rfl, H⟩
          refine ⟨_, rfl, ?_⟩
          rw [List.take_length] at H ⊢
          refine JL.pure rfl rfl ?_
          refine JL.pure rfl rfl ?_
          refine JL.pure rfl rfl ?_
          refine JL.pure rfl rfl ?_
          refine JL.pure rfl rfl ?_
          refine JL.nil ?_
          ((repeat refine Ex.normal_block ?_); refine Ex.next ?_)
          ((repeat refine JC.seq ?_); refine JC.region ?_)
          refine JL.pure rfl rfl ?_
          refine JL.pure rfl rfl ?_
          refine JL.nil ?_
          ((repeat refine Ex.normal_block ?_); refine Ex.next ?_)
          ((repeat refine JC.seq ?_); refine JC.cond rfl ?_ ?_)
          · intro h126
            (try simp only [Bool.not_eq_true', Bool.not_eq_false', decide_eq_true_eq, decide_eq_false_iff_not] at h126)
            ((repeat refine JC.seq ?_); refine JC.region ?_)
            refine JL.pure rfl rfl ?_
            refine JL.pure rfl rfl ?_
            refine JL.pure rfl rfl ?_
            refine JL.pure rfl rfl ?_
            refine JL.nil ?_
            ((repeat refine Ex.normal_block ?_); refine Ex.next ?_)
            ((repeat refine JC.seq ?_); refine JC.ret ?_)
            (repeat (first | refine Ex.ret_then ?_ | refine Ex.ret_block ?_))
            have hne : ¬ (regRes (growT g (leadOf g p) r)).2 = 0 := by rw [← hl']; exact h126
            refine Ex.ret3 rfl (.tmp rfl) (.tmp rfl) (.tmp rfl) ⟨.slice none 0 0, ?_, ?_⟩
            · unfold growR; rw [hok, hpok]; simp only [Bool.and_self, if_true, if_neg hne, hl']
            · unfold growR; rw [hok, hpok]; simp only [Bool.and_self, if_true, if_neg hne]; exact ((H.drop 0).drop 0).nilRow 140 3
          · intro h126
            (try simp only [Bool.not_eq_true', Bool.not_eq_false', decide_eq_true_eq, decide_eq_false_iff_not] at h126)
            ((repeat refine JC.seq ?_); refine JC.skip ?_)
            ((repeat refine Ex.normal_block ?_); refine Ex.next ?_)
            ((repeat refine JC.seq ?_); refine JC.region ?_)
            refine JL.pure rfl rfl ?_
            refine JL.pure rfl rfl ?_
            refine JL.pure rfl rfl ?_
            refine JL.pure rfl rfl ?_
            refine JL.pure rfl rfl ?_
            refine JL.nil ?_
            ((repeat refine Ex.normal_block ?_); refine Ex.next ?_)
            ((repeat refine JC.seq ?_); refine JC.ret ?_)
            (repeat (first | refine Ex.ret_then ?_ | refine Ex.ret_block ?_))
            have hne : (regRes (growT g (leadOf g p) r)).2 = 0 := by rw [← hl']; omega
            refine Ex.ret3 rfl (.tmp rfl) (.tmp rfl) (.tmp rfl) ⟨ov, ?_, ?_⟩
            · unfold growR; rw [hok, hpok]; simp only [Bool.and_self, if_true, if_pos hne, hl']
            · unfold growR; rw [hok, hpok]; simp only [Bool.and_self, if_true, if_pos hne]; rw [← hl']; exact H.drop 1
end Go.J

namespace Go.J
open Go.RowKit Go.Proofs
set_option maxRecDepth 8000
set_option linter.unusedSimpArgs false
set_option linter.unusedVariables false
def oneR (x y : Int) : List Run := [⟨y, x, w64 (x + 1)⟩]
theorem same_c (av bv : Value) (a b : List Run) (w : World) (ha : SlR w av a) (hb : SlR w bv b) : Pur Try.prog 67 #[av, bv] w (.bool (decide (a = b))) := by
  obtain ⟨aa, ac, rfl⟩ := ha.len
  obtain ⟨ba, bc, rfl⟩ := hb.len
  refine pur_J (args := [.slice aa a.length ac, .slice ba b.length bc]) Try.func67 rfl Try.ntmps67 rfl ?_
  have H := Own.start w
  ((repeat refine JC.seq ?_); refine JC.region ?_)
  refine JL.pure rfl rfl ?_
  refine JL.nil ?_
  ((repeat refine Ex.normal_block ?_); refine Ex.next ?_)
  ((repeat refine JC.seq ?_); refine JC.region ?_)
  refine JL.pure rfl rfl ?_
  refine JL.len rfl Try.underlying50 rfl ?_
  refine JL.pure rfl rfl ?_
  refine JL.len rfl Try.underlying50 rfl ?_
  refine JL.pure rfl rfl ?_
  refine JL.nil ?_
  ((repeat refine Ex.normal_block ?_); refine Ex.next ?_)
  ((repeat refine JC.seq ?_); refine JC.cond rfl ?_ ?_)
  · intro h10
    (try simp only [Bool.not_eq_true', Bool.not_eq_false', decide_eq_true_eq, decide_eq_false_iff_not] at h10)
    
    ((repeat refine JC.seq ?_); refine JC.region ?_)
    refine JL.pure rfl rfl ?_
    refine JL.nil ?_
    ((repeat refine Ex.normal_block ?_); refine Ex.next ?_)
    ((repeat refine JC.seq ?_); refine JC.ret ?_)
    (repeat (first | refine Ex.ret_then ?_ | refine Ex.ret_block ?_))
    refine Ex.ret1 rfl (.tmp rfl) ⟨?_, H.below⟩
    rw [decide_eq_false]
    rintro rfl
    exact h10 rfl
  · intro h10
    (try simp only [Bool.not_eq_true', Bool.not_eq_false', decide_eq_true_eq, decide_eq_false_iff_not] at h10)
    have hlen : a.length = b.length := by omega
    have hal : a.length ≤ 9223372036854775807 := ha.1
    ((repeat refine JC.seq ?_); refine JC.skip ?_)
    ((repeat refine Ex.normal_block ?_); refine Ex.next ?_)
    ((repeat refine JC.seq ?_); refine JC.region ?_)
    refine JL.pure rfl rfl ?_
    refine JL.nil ?_
    ((repeat refine Ex.normal_block ?_); refine Ex.next ?_)
    ((repeat refine JC.seq ?_); refine JC.block ?_)
    ((repeat refine JC.seq ?_); refine JC.loop (ι := Nat) (fun k => [(0, .slice aa a.length ac), (1, .slice ba b.length bc), (5, .int .i64 k)])
      (fun k wr => k ≤ a.length ∧ (∀ i, i < k → a[i]? = b[i]?) ∧ Own w wr []) (fun k => a.length - k) 0 ?_ ?_ ?_)
    · exact ⟨rfl, rfl, rfl, trivial⟩
    · exact ⟨Nat.zero_le _, fun i hi => by omega, H⟩
    · rintro k wr ⟨hk, heq, H⟩
      ((repeat refine JC.seq ?_); refine JC.region ?_)
      refine JL.pure rfl rfl ?_
      refine JL.pure rfl rfl ?_
      refine JL.len rfl Try.underlying50 rfl ?_
      refine JL.pure rfl rfl ?_
      refine JL.nil ?_
      ((repeat refine Ex.normal_block ?_); refine Ex.next ?_)
      ((repeat refine JC.seq ?_); refine JC.cond rfl ?_ ?_)
      · intro h14
        (try simp only [Bool.not_eq_true', Bool.not_eq_false', decide_eq_true_eq, decide_eq_false_iff_not] at h14)
        have h14 : k < a.length := by omega
        have h14b : k < b.length := by omega
        have hx : a[k]? = some a[k] := by simp [h14]
        have hy : b[k]? = some b[k] := by simp [h14b]
        obtain ⟨_, _, _, he1, ha'⟩ := id ha
        cases he1
        obtain ⟨β, off, hra, hβ, hc⟩ := ha'.resolve_left (by rintro rfl; simp at h14)
        obtain ⟨_, _, _, he1, hb'⟩ := id hb
        cases he1
        obtain ⟨γ, ofg, hrb, hγ, hd⟩ := hb'.resolve_left (by rintro rfl; simp at h14b)
        ((repeat refine JC.seq ?_); refine JC.skip ?_)
        ((repeat refine Ex.normal_block ?_); refine Ex.next ?_)
        ((repeat refine JC.seq ?_); refine JC.block ?_)
        ((repeat refine JC.seq ?_); refine JC.draw 9 H mixed (by kernel_rfl) rfl ?_)
        refine JD.pure rfl rfl ?_
        refine JD.pure rfl rfl ?_
        refine JD.indexS k (congrArg (fun z => some (Value.slice z a.length ac)) hra) rfl Try.underlying50 sh140 rfl h14 rfl ?_
        refine JD.load rfl sh140 (fun w hw => (hc k _ hx).grow hβ hw.below) rfl ?_
        refine JD.pure rfl rfl ?_
        refine JD.pure rfl rfl ?_
        refine JD.indexS k (congrArg (fun z => some (Value.slice z b.length bc)) hrb) rfl Try.underlying50 sh140 rfl h14b rfl ?_
        refine JD.load rfl sh140 (fun w hw => (hd k _ hy).grow hγ hw.below) rfl ?_
        refine JD.eqs rfl rfl (eq140 _ _ _ _ _ _).2 rfl ?_
        refine JD.nil ?_
        intro w1 H
        show JL _ _ _ _ _ _ _
        refine JL.nil ?_
        ((repeat refine Ex.normal_block ?_); refine Ex.next ?_)
        ((repeat refine JC.seq ?_); refine JC.cond rfl ?_ ?_)
        · intro h25
          (try simp only [Bool.not_eq_true', Bool.not_eq_false', decide_eq_true_eq, decide_eq_false_iff_not] at h25)
          ((repeat refine JC.seq ?_); refine JC.region ?_)
          refine JL.pure rfl rfl ?_
          refine JL.nil ?_
          ((repeat refine Ex.normal_block ?_); refine Ex.next ?_)
          ((repeat refine JC.seq ?_); refine JC.ret ?_)
          (repeat (first | refine Ex.ret_then ?_ | refine Ex.ret_block ?_))
          refine Ex.ret1 rfl (.tmp rfl) ⟨?_, H.below⟩
          rw [decide_eq_false]
          rintro rfl
          simp at h25
        · intro h25
          (try simp only [Bool.not_eq_true', Bool.not_eq_false', decide_eq_true_eq, decide_eq_false_iff_not] at h25)
          ((repeat refine JC.seq ?_); refine JC.skip ?_)
          ((repeat refine Ex.normal_block ?_); refine Ex.next ?_)
          ((repeat refine JC.seq ?_); refine JC.region ?_)
          refine JL.pure rfl rfl ?_
          refine JL.arith rfl (by unfold In64; omega) rfl ?_
          refine JL.pure rfl rfl ?_
          refine JL.nil ?_
          (repeat refine Ex.normal_block ?_)
          have hxy : a[k] = b[k] := by
            cases hp : a[k] with
            | mk p q r => cases hq : b[k] with
              | mk p' q' r' => rw [hp, hq] at h25; simp at h25; simp [h25]
          refine Ex.again (k + 1) ⟨rfl, rfl, rfl, trivial⟩ ⟨h14, fun i hi => ?_, H⟩ (by omega)
          by_cases hik : i = k
          · subst hik; rw [hx, hy, hxy]
          · exact heq i (by omega)
      · intro h14
        (try simp only [Bool.not_eq_true', Bool.not_eq_false', decide_eq_true_eq, decide_eq_false_iff_not] at h14)
        
        ((repeat refine JC.seq ?_); refine JC.exit ?_)
        (repeat (first | refine Ex.exit_then ?_ | refine Ex.exit_miss (by decide) ?_))
        refine Ex.exit_hit ?_
        ((repeat refine Ex.normal_block ?_); refine Ex.next ?_)
        ((repeat refine JC.seq ?_); refine JC.region ?_)
        refine JL.pure rfl rfl ?_
        refine JL.nil ?_
        ((repeat refine Ex.normal_block ?_); refine Ex.next ?_)
        ((repeat refine JC.seq ?_); refine JC.ret ?_)
        (repeat (first | refine Ex.ret_then ?_ | refine Ex.ret_block ?_))
        refine Ex.ret1 rfl (.tmp rfl) ⟨?_, H.below⟩
        rw [decide_eq_true]
        apply List.ext_getElem?
        intro i
        rcases Nat.lt_or_ge i k with hi | hi
        · exact heq i hi
        · rw [List.getElem?_eq_none (by omega), List.getElem?_eq_none (by omega)]
end Go.J

namespace Go.J
set_option linter.unusedSimpArgs false
set_option linter.unusedVariables false
open Go.RowKit
/-- does operation t wait for operation i? -/
def reachB' (ops : Array Oper) : Nat → Nat → Nat → Bool
  | 0, _, _ => false
  | f + 1, t, i => match ops[t]? with
    | some o => depsOf o.after i || o.after.toList.any fun e => Region.binds .any e && reachB' ops f e.on i
    | none => false
theorem reachB'_spec {ops : Array Oper} {n i : Nat} {listed : Array Bool} (inv : HeadInv .any ops n listed) : ∀ (f t : Nat) (o : Oper), ops[t]? = some o → (∀ e ∈ o.after, Region.binds .any e = true → listed.getD e.on false = true) → reachB' ops f t i = true → listed.getD i false = true := by
  intro f
  induction f with
  | zero => intro t o _ _ h; cases h
  | succ f ih =>
    intro t o ho hd h
    simp only [reachB', ho, Bool.or_eq_true, List.any_eq_true, Bool.and_eq_true] at h
    rcases h with h | ⟨e, he, hb, h⟩
    · obtain ⟨e, he, h1, h2⟩ := depsOf_spec h
      rw [← h1]; exact hd e he h2
    · have he' : e ∈ o.after := Array.mem_toList_iff.1 he
      have hl := hd e he' hb
      cases f with
      | zero => cases h
      | succ f =>
        cases ho2 : ops[e.on]? with
        | none => simp only [reachB', ho2] at h; cases h
        | some o2 => exact ih e.on o2 ho2 (inv.closed e.on o2 ho2 hl) h
def waitB (ops : Array Oper) (m n : Nat) : Bool := (List.range ops.size).all fun t => Nat.blt t n || (List.range n).all fun i => Nat.blt i m || reachB' ops 9 t i
theorem waitB_spec {ops : Array Oper} {m n : Nat} (h : waitB ops m n = true) : ∀ listed, HeadInv .any ops n listed → ∀ i, i < n → listed.getD i true = false → (∀ j, j < m → listed.getD j false = true) → ∀ t, n ≤ t → t ∉ Region.ready .any ops listed := by
  intro listed inv i hi hl hm t ht hr
  obtain ⟨_, o, ho, hd⟩ := mem_ready.1 hr
  have hts : t < ops.size := (Array.getElem?_eq_some_iff.1 ho).1
  have h1 := List.all_eq_true.1 h t (List.mem_range.2 hts)
  have hb : Nat.blt t n = false := by
    cases hc : Nat.blt t n with
    | false => rfl
    | true => have := Nat.lt_of_succ_le (Nat.le_of_ble_eq_true hc); omega
  rw [hb, Bool.false_or] at h1
  have h2 := List.all_eq_true.1 h1 i (List.mem_range.2 hi)
  have him : Nat.blt i m = false := by
    cases hc : Nat.blt i m with
    | false => rfl
    | true =>
      have := hm i (Nat.lt_of_succ_le (Nat.le_of_ble_eq_true hc))
      have h3 := getD_both hl
      rw [h3] at this; cases this
  rw [him, Bool.false_or] at h2
  have := reachB'_spec inv 9 t o ho hd h2
  rw [getD_both hl] at this
  cases this
section
variable {P : Program} {N : Sz} {ops : Array Oper} {Q : Exit → Act → World → Prop} {fr : Fr} {w w0 : World} {L : List HP}
/-- what is left of a region that draws its order, when its first m operations are done -/
def DR (P : Program) (N : Sz) (ops : Array Oper) (Q : Exit → Act → World → Prop) (m : Nat) (fr : Fr) (w : World) : Prop := ∀ a, Has N fr a → wpAnyIn (wideR N.ro) 0 P .any ops Q (ops.size - m) (pre ops m) a w
theorem JC.drawS {id : Nat} (H : Own w0 w L) (hm : P.follows .mixedOrders = true) (k : ∀ w1, Own w0 w1 L → DR P N ops Q 0 fr w1) : JC P N (.region id ops true) Q fr w := by
  intro a Ha
  refine wpIn_region_any hm ?_
  have h := k _ H.drew a Ha
  have e1 : pre ops 0 = Array.replicate ops.size false := by simp [pre]
  rw [e1] at h
  exact h
theorem DR.any (m n : Nat) (H : Own w0 w L) (hc : (backB ops && Nat.ble m n && Nat.ble n ops.size && waitB ops m n && freshB (ops.toList.take n)) = true)
    (k : JD P N ops Q n [] (fun _ => L) w0 (frAtM ops m n fr) (fun fr w => DR P N ops Q n fr w) ((ops.toList.take n).drop m) m []) : DR P N ops Q m fr w := by
  intro a Ha
  simp only [Bool.and_eq_true] at hc
  obtain ⟨⟨⟨⟨h1, h2⟩, h3⟩, h4⟩, h5⟩ := hc
  exact draw_seg (Nat.le_of_ble_eq_true h2) h1 (Nat.le_of_ble_eq_true h3) rfl (by simp) (waitB_spec h4) (fun fr a w Hf hz => hz a Hf) h5 H rfl Ha k
theorem DR.op {m : Nat} {o : Oper} (ho : ops[m]? = some o) (hr : Region.ready .any ops (pre ops m) = [m]) (h : JL P N ops (Exit.then (fun a w => wpAnyIn (wideR N.ro) 0 P .any ops Q (ops.size - (m + 1)) (pre ops (m + 1)) a w) Q) [o] fr w) : DR P N ops Q m fr w := by
  intro a Ha
  have hm : m < ops.size := (Array.getElem?_eq_some_iff.1 ho).1
  have hset : (pre ops m).setIfInBounds m true = pre ops (m + 1) := by
    apply Array.ext
    · simp [pre]; omega
    · intro i h1 h2
      by_cases hi : i = m
      · subst hi
        have := pre_lt (ops := ops) (n := i + 1) (j := i) (by omega) false
        simp [h2] at this
        simp [this]
      · have h3 := getD_set_ne (listed := pre ops m) (i := m) (j := i) false (fun h => hi h.symm)
        have h4 : (pre ops m).getD i false = (pre ops (m + 1)).getD i false := by
          rcases Nat.lt_or_ge i m with h | h
          · rw [pre_lt h, pre_lt (by omega)]
          · rw [pre_ge h, pre_ge (by omega)]
        rw [h4] at h3
        rw [Array.getD_eq_getD_getElem?, Array.getD_eq_getD_getElem?, Array.getElem?_eq_getElem h1, Array.getElem?_eq_getElem h2] at h3
        exact h3
  have hw := h a Ha
  rw [show ops.size - m = (ops.size - (m + 1)) + 1 by omega]
  refine ⟨fun hr' => (by rw [hr] at hr'; cases hr'), fun i hi => ?_⟩
  rw [hr] at hi
  simp at hi
  subst hi
  rw [hset]
  unfold wpOpIn
  rw [ho]
  simp only
  unfold wpListIn at hw
  split at hw
  · rename_i hwant
    rw [if_pos hwant]
    refine Oper.wpIn_exits (fun e a w hne q => ?_) hw
    cases e <;> first | exact absurd rfl hne | exact q
  · rename_i hwant
    rw [if_neg hwant]
    exact ⟨fun _ _ => trivial, hw.2⟩
theorem DR.next {m : Nat} (h : DR P N ops Q m fr w) : JL P N ops (Exit.then (fun a w => wpAnyIn (wideR N.ro) 0 P .any ops Q (ops.size - m) (pre ops m) a w) Q) [] fr w := h
theorem DR.done {m : Nat} (hm : Nat.beq m ops.size = true) (k : Ex N Q .normal fr w) : DR P N ops Q m fr w := by
  intro a Ha
  have := Nat.eq_of_beq_eq_true hm
  subst this
  rw [Nat.sub_self]
  refine ⟨?_, k a Ha⟩
  rw [List.eq_nil_iff_forall_not_mem]
  intro j hj
  obtain ⟨h1, o, ho, _⟩ := mem_ready.1 hj
  have := (Array.getElem?_eq_some_iff.1 ho).1
  rw [pre_lt this] at h1
  cases h1
end
end Go.J

namespace Go.J
open Go.RowKit Go.Proofs
set_option maxRecDepth 8000
set_option linter.unusedSimpArgs false
set_option linter.unusedVariables false
def hugeB (g : Grid) (n : Int) : Bool := decide (0 < g.W) && decide (0 < g.H) && decide (g.W ≤ 256) && decide (g.H ≤ 256) && decide (n < g.W * g.H)
def greatB (g : Grid) (n : Int) (l : List (List Run)) : Bool := hugeB g n || decide (300 < g.land.length) || l.any fun r => decide (300 < r.length)
theorem great_c (g : Grid) (lv lsv : Value) (n : Int) (l : List (Value × List Run)) (w : World) (hl : SlR w lv g.land) (hs : Sl Prod.fst (false, 1) w lsv l) (hr : ∀ p ∈ l, SlR w p.1 p.2) :
    Pur Try.prog 41 #[g.ev lv, .int .i64 n, lsv] w (.bool (greatB g n (l.map Prod.snd))) := by
  obtain ⟨la, lc, rfl⟩ := hl.len
  obtain ⟨sa, sc, rfl⟩ := hs.len
  refine pur_J (args := [g.ev (.slice la g.land.length lc), .int .i64 n, .slice sa l.length sc]) Try.func41 rfl Try.ntmps41 rfl ?_
  have H := Own.start w
  ((repeat refine JC.seq ?_); refine JC.region ?_)
  refine JL.box H rfl rfl rfl ?_
  intro b3 w1 H
  refine JL.pure rfl rfl ?_
  refine JL.nil ?_
  ((repeat refine Ex.normal_block ?_); refine Ex.next ?_)
  ((repeat refine JC.seq ?_); refine JC.regionTo ([(2, .slice sa l.length sc), (40, .bool (hugeB g n || decide (300 < g.land.length)))]) (fun wr => Own w wr []) ?_ ?_)
  ·
    refine JL.fieldAddr rfl Try.underlying52 rfl sh3 rfl ?_
    refine JL.loadB 0 H rfl sh3 rfl rfl rfl ?_
    refine JL.pure rfl rfl ?_
    refine JL.pure rfl rfl ?_
    refine JL.cases 11 rfl ?_ ?_
    · intro h11
      (try simp only [Bool.not_eq_true', Bool.not_eq_false', decide_eq_true_eq, decide_eq_false_iff_not] at h11)
      refine JL.want rfl rfl ?_
      refine JL.fieldAddr rfl Try.underlying52 rfl sh3 rfl ?_
      refine JL.want rfl rfl ?_
      refine JL.loadB 0 H rfl sh3 rfl rfl rfl ?_
      refine JL.want rfl rfl ?_
      refine JL.pure rfl rfl ?_
      refine JL.pure rfl rfl ?_
      refine JL.pure rfl rfl ?_
      refine JL.cases 16 rfl ?_ ?_
      · intro h16
        (try simp only [Bool.not_eq_true', Bool.not_eq_false', decide_eq_true_eq, decide_eq_false_iff_not] at h16)
        refine JL.want rfl rfl ?_
        refine JL.fieldAddr rfl Try.underlying52 rfl sh3 rfl ?_
        refine JL.want rfl rfl ?_
        refine JL.loadB 0 H rfl sh3 rfl rfl rfl ?_
        refine JL.want rfl rfl ?_
        refine JL.pure rfl rfl ?_
        refine JL.pure rfl rfl ?_
        refine JL.pure rfl rfl ?_
        refine JL.cases 21 rfl ?_ ?_
        · intro h21
          (try simp only [Bool.not_eq_true', Bool.not_eq_false', decide_eq_true_eq, decide_eq_false_iff_not] at h21)
          refine JL.want rfl rfl ?_
          refine JL.fieldAddr rfl Try.underlying52 rfl sh3 rfl ?_
          refine JL.want rfl rfl ?_
          refine JL.loadB 0 H rfl sh3 rfl rfl rfl ?_
          refine JL.want rfl rfl ?_
          refine JL.pure rfl rfl ?_
          refine JL.pure rfl rfl ?_
          refine JL.pure rfl rfl ?_
          refine JL.cases 26 rfl ?_ ?_
          · intro h26
            (try simp only [Bool.not_eq_true', Bool.not_eq_false', decide_eq_true_eq, decide_eq_false_iff_not] at h26)
            refine JL.want rfl rfl ?_
            refine JL.fieldAddr rfl Try.underlying52 rfl sh3 rfl ?_
            refine JL.want rfl rfl ?_
            refine JL.loadB 0 H rfl sh3 rfl rfl rfl ?_
            refine JL.want rfl rfl ?_
            refine JL.fieldAddr rfl Try.underlying52 rfl sh3 rfl ?_
            refine JL.want rfl rfl ?_
            refine JL.loadB 0 H rfl sh3 rfl rfl rfl ?_
            refine JL.want rfl rfl ?_
            refine JL.arith rfl (by
              have h1 : g.W * g.H ≤ 256 * 256 := Int.mul_le_mul (by omega) (by omega) (by omega) (by omega)
              have h2 : 0 ≤ g.W * g.H := Int.mul_nonneg (by omega) (by omega)
              unfold In64; omega) rfl ?_
            refine JL.want rfl rfl ?_
            refine JL.pure rfl rfl ?_
            refine JL.want rfl rfl ?_
            refine JL.pure rfl rfl ?_
            refine JL.pure rfl rfl ?_
            refine JL.pure rfl rfl ?_
            refine JL.cases 35 rfl ?_ ?_
            · intro h35
              (try simp only [Bool.not_eq_true', Bool.not_eq_false', decide_eq_true_eq, decide_eq_false_iff_not] at h35)
              refine JL.pass rfl rfl rfl rfl ?_
              refine JL.pass rfl rfl rfl rfl ?_
              refine JL.pass rfl rfl rfl rfl ?_
              refine JL.pass rfl rfl rfl rfl ?_
              refine JL.pure rfl rfl ?_
              refine JL.nil ?_
              refine Ex.to ⟨rfl, ?_, trivial⟩ (H.drop 0)
              show some (Value.bool _) = some (Value.bool _)
              unfold hugeB
              first | (simp [*]; done) | (simp [*]; omega)
            · intro h35
              (try simp only [Bool.not_eq_true', Bool.not_eq_false', decide_eq_true_eq, decide_eq_false_iff_not] at h35)
              refine JL.want rfl rfl ?_
              refine JL.fieldAddr rfl Try.underlying52 rfl sh50 rfl ?_
              refine JL.want rfl rfl ?_
              refine JL.loadB 0 H rfl sh50 rfl rfl rfl ?_
              refine JL.want rfl rfl ?_
              refine JL.len rfl Try.underlying50 rfl ?_
              refine JL.want rfl rfl ?_
              refine JL.pure rfl rfl ?_
              refine JL.pure rfl rfl ?_
              refine JL.nil ?_
              refine Ex.to ⟨rfl, ?_, trivial⟩ (H.drop 0)
              show some (Value.bool _) = some (Value.bool _)
              unfold hugeB
              first | (simp [*]; done) | (simp [*]; omega)
          · intro h26
            (try simp only [Bool.not_eq_true', Bool.not_eq_false', decide_eq_true_eq, decide_eq_false_iff_not] at h26)
            refine JL.pass rfl rfl rfl rfl ?_
            refine JL.pass rfl rfl rfl rfl ?_
            refine JL.pass rfl rfl rfl rfl ?_
            refine JL.pass rfl rfl rfl rfl ?_
            refine JL.pass rfl rfl rfl rfl ?_
            refine JL.pass rfl rfl rfl rfl ?_
            refine JL.pass rfl rfl rfl rfl ?_
            refine JL.pure rfl rfl ?_
            refine JL.pure rfl rfl ?_
            refine JL.want rfl rfl ?_
            refine JL.fieldAddr rfl Try.underlying52 rfl sh50 rfl ?_
            refine JL.want rfl rfl ?_
            refine JL.loadB 0 H rfl sh50 rfl rfl rfl ?_
            refine JL.want rfl rfl ?_
            refine JL.len rfl Try.underlying50 rfl ?_
            refine JL.want rfl rfl ?_
            refine JL.pure rfl rfl ?_
            refine JL.pure rfl rfl ?_
            refine JL.nil ?_
            refine Ex.to ⟨rfl, ?_, trivial⟩ (H.drop 0)
            show some (Value.bool _) = some (Value.bool _)
            unfold hugeB
            first | (simp [*]; done) | (simp [*]; omega)
        · intro h21
          (try simp only [Bool.not_eq_true', Bool.not_eq_false', decide_eq_true_eq, decide_eq_false_iff_not] at h21)
          refine JL.pass rfl rfl rfl rfl ?_
          refine JL.pass rfl rfl rfl rfl ?_
          refine JL.pass rfl rfl rfl rfl ?_
          refine JL.pure rfl rfl ?_
          refine JL.pure rfl rfl ?_
          refine JL.pass rfl rfl rfl rfl ?_
          refine JL.pass rfl rfl rfl rfl ?_
          refine JL.pass rfl rfl rfl rfl ?_
          refine JL.pass rfl rfl rfl rfl ?_
          refine JL.pass rfl rfl rfl rfl ?_
          refine JL.pass rfl rfl rfl rfl ?_
          refine JL.pass rfl rfl rfl rfl ?_
          refine JL.pure rfl rfl ?_
          refine JL.pure rfl rfl ?_
          refine JL.want rfl rfl ?_
          refine JL.fieldAddr rfl Try.underlying52 rfl sh50 rfl ?_
          refine JL.want rfl rfl ?_
          refine JL.loadB 0 H rfl sh50 rfl rfl rfl ?_
          refine JL.want rfl rfl ?_
          refine JL.len rfl Try.underlying50 rfl ?_
          refine JL.want rfl rfl ?_
          refine JL.pure rfl rfl ?_
          refine JL.pure rfl rfl ?_
          refine JL.nil ?_
          refine Ex.to ⟨rfl, ?_, trivial⟩ (H.drop 0)
          show some (Value.bool _) = some (Value.bool _)
          unfold hugeB
          first | (simp [*]; done) | (simp [*]; omega)
      · intro h16
        (try simp only [Bool.not_eq_true', Bool.not_eq_false', decide_eq_true_eq, decide_eq_false_iff_not] at h16)
        refine JL.pass rfl rfl rfl rfl ?_
        refine JL.pass rfl rfl rfl rfl ?_
        refine JL.pass rfl rfl rfl rfl ?_
        refine JL.pure rfl rfl ?_
        refine JL.pure rfl rfl ?_
        refine JL.pass rfl rfl rfl rfl ?_
        refine JL.pass rfl rfl rfl rfl ?_
        refine JL.pass rfl rfl rfl rfl ?_
        refine JL.pure rfl rfl ?_
        refine JL.pure rfl rfl ?_
        refine JL.pass rfl rfl rfl rfl ?_
        refine JL.pass rfl rfl rfl rfl ?_
        refine JL.pass rfl rfl rfl rfl ?_
        refine JL.pass rfl rfl rfl rfl ?_
        refine JL.pass rfl rfl rfl rfl ?_
        refine JL.pass rfl rfl rfl rfl ?_
        refine JL.pass rfl rfl rfl rfl ?_
        refine JL.pure rfl rfl ?_
        refine JL.pure rfl rfl ?_
        refine JL.want rfl rfl ?_
        refine JL.fieldAddr rfl Try.underlying52 rfl sh50 rfl ?_
        refine JL.want rfl rfl ?_
        refine JL.loadB 0 H rfl sh50 rfl rfl rfl ?_
        refine JL.want rfl rfl ?_
        refine JL.len rfl Try.underlying50 rfl ?_
        refine JL.want rfl rfl ?_
        refine JL.pure rfl rfl ?_
        refine JL.pure rfl rfl ?_
        refine JL.nil ?_
        refine Ex.to ⟨rfl, ?_, trivial⟩ (H.drop 0)
        show some (Value.bool _) = some (Value.bool _)
        unfold hugeB
        first | (simp [*]; done) | (simp [*]; omega)
    · intro h11
      (try simp only [Bool.not_eq_true', Bool.not_eq_false', decide_eq_true_eq, decide_eq_false_iff_not] at h11)
      refine JL.pass rfl rfl rfl rfl ?_
      refine JL.pass rfl rfl rfl rfl ?_
      refine JL.pass rfl rfl rfl rfl ?_
      refine JL.pure rfl rfl ?_
      refine JL.pure rfl rfl ?_
      refine JL.pass rfl rfl rfl rfl ?_
      refine JL.pass rfl rfl rfl rfl ?_
      refine JL.pass rfl rfl rfl rfl ?_
      refine JL.pure rfl rfl ?_
      refine JL.pure rfl rfl ?_
      refine JL.pass rfl rfl rfl rfl ?_
      refine JL.pass rfl rfl rfl rfl ?_
      refine JL.pass rfl rfl rfl rfl ?_
      refine JL.pure rfl rfl ?_
      refine JL.pure rfl rfl ?_
      refine JL.pass rfl rfl rfl rfl ?_
      refine JL.pass rfl rfl rfl rfl ?_
      refine JL.pass rfl rfl rfl rfl ?_
      refine JL.pass rfl rfl rfl rfl ?_
      refine JL.pass rfl rfl rfl rfl ?_
      refine JL.pass rfl rfl rfl rfl ?_
      refine JL.pass rfl rfl rfl rfl ?_
      refine JL.pure rfl rfl ?_
      refine JL.pure rfl rfl ?_
      refine JL.want rfl rfl ?_
      refine JL.fieldAddr rfl Try.underlying52 rfl sh50 rfl ?_
      refine JL.want rfl rfl ?_
      refine JL.loadB 0 H rfl sh50 rfl rfl rfl ?_
      refine JL.want rfl rfl ?_
      refine JL.len rfl Try.underlying50 rfl ?_
      refine JL.want rfl rfl ?_
      refine JL.pure rfl rfl ?_
      refine JL.pure rfl rfl ?_
      refine JL.nil ?_
      refine Ex.to ⟨rfl, ?_, trivial⟩ (H.drop 0)
      show some (Value.bool _) = some (Value.bool _)
      unfold hugeB
      first | (simp [*]; done) | (simp [*]; omega)
  · intro wc H
    ((repeat refine Ex.normal_block ?_); refine Ex.next ?_)
    ((repeat refine JC.seq ?_); refine JC.cond rfl ?_ ?_)
    · intro h40
      (try simp only [Bool.not_eq_true', Bool.not_eq_false', decide_eq_true_eq, decide_eq_false_iff_not] at h40)
      ((repeat refine JC.seq ?_); refine JC.region ?_)
      refine JL.pure rfl rfl ?_
      refine JL.nil ?_
      ((repeat refine Ex.normal_block ?_); refine Ex.next ?_)
      ((repeat refine JC.seq ?_); refine JC.ret ?_)
      (repeat (first | refine Ex.ret_then ?_ | refine Ex.ret_block ?_))
      refine Ex.ret1 rfl (.tmp rfl) ⟨?_, H.below⟩
      unfold greatB
      rw [h40]; rfl
    · intro h40
      (try simp only [Bool.not_eq_true', Bool.not_eq_false', decide_eq_true_eq, decide_eq_false_iff_not] at h40)
      ((repeat refine JC.seq ?_); refine JC.skip ?_)
      ((repeat refine Ex.normal_block ?_); refine Ex.next ?_)
      ((repeat refine JC.seq ?_); refine JC.region ?_)
      refine JL.pure rfl rfl ?_
      refine JL.nil ?_
      ((repeat refine Ex.normal_block ?_); refine Ex.next ?_)
      ((repeat refine JC.seq ?_); refine JC.block ?_)
      ((repeat refine JC.seq ?_); refine JC.loop (ι := Nat) (fun k => [(2, .slice sa l.length sc), (7, .int .i64 k)])
        (fun k wr => k ≤ l.length ∧ (∀ (i : Nat) (h : i < l.length), i < k → l[i].2.length ≤ 300) ∧ Own w wr []) (fun k => l.length - k) 0 ?_ ?_ ?_)
      · exact ⟨rfl, rfl, trivial⟩
      · exact ⟨Nat.zero_le _, fun i _ hi => by omega, H⟩
      · rintro k wr ⟨hk, hno, H⟩
        ((repeat refine JC.seq ?_); refine JC.region ?_)
        refine JL.pure rfl rfl ?_
        refine JL.pure rfl rfl ?_
        refine JL.len rfl Try.underlying134 rfl ?_
        refine JL.pure rfl rfl ?_
        refine JL.nil ?_
        ((repeat refine Ex.normal_block ?_); refine Ex.next ?_)
        ((repeat refine JC.seq ?_); refine JC.cond rfl ?_ ?_)
        · intro h44
          (try simp only [Bool.not_eq_true', Bool.not_eq_false', decide_eq_true_eq, decide_eq_false_iff_not] at h44)
          have h44 : k < l.length := by omega
          have hx : l[k]? = some l[k] := by simp [h44]
          obtain ⟨xa, xc, hxv⟩ := (hr _ (List.getElem_mem h44)).len
          obtain ⟨_, _, _, he1, hs'⟩ := id hs
          cases he1
          obtain ⟨β, off, hsa, hβ, hc⟩ := hs'.resolve_left (by rintro rfl; simp at h44)
          ((repeat refine JC.seq ?_); refine JC.skip ?_)
          ((repeat refine Ex.normal_block ?_); refine Ex.next ?_)
          ((repeat refine JC.seq ?_); refine JC.block ?_)
          ((repeat refine JC.seq ?_); refine JC.region ?_)
          refine JL.pure rfl rfl ?_
          refine JL.pure rfl rfl ?_
          refine JL.indexS k (congrArg (fun z => some (Value.slice z l.length sc)) hsa) rfl Try.underlying134 sh50 rfl h44 rfl ?_
          refine JL.load rfl sh50 (by have := (hc k _ hx).grow hβ H.below; rw [hxv] at this; exact this) rfl ?_
          refine JL.len rfl Try.underlying50 rfl ?_
          refine JL.pure rfl rfl ?_
          refine JL.nil ?_
          ((repeat refine Ex.normal_block ?_); refine Ex.next ?_)
          ((repeat refine JC.seq ?_); refine JC.cond rfl ?_ ?_)
          · intro h52
            (try simp only [Bool.not_eq_true', Bool.not_eq_false', decide_eq_true_eq, decide_eq_false_iff_not] at h52)
            ((repeat refine JC.seq ?_); refine JC.region ?_)
            refine JL.pure rfl rfl ?_
            refine JL.nil ?_
            ((repeat refine Ex.normal_block ?_); refine Ex.next ?_)
            ((repeat refine JC.seq ?_); refine JC.ret ?_)
            (repeat (first | refine Ex.ret_then ?_ | refine Ex.ret_block ?_))
            refine Ex.ret1 rfl (.tmp rfl) ⟨?_, H.below⟩
            unfold greatB
            rw [h40, Bool.false_or, List.any_map, List.any_eq_true.2]
            exact ⟨_, List.getElem_mem h44, by simp only [Function.comp_apply, decide_eq_true_eq]; omega⟩
          · intro h52
            (try simp only [Bool.not_eq_true', Bool.not_eq_false', decide_eq_true_eq, decide_eq_false_iff_not] at h52)
            ((repeat refine JC.seq ?_); refine JC.skip ?_)
            ((repeat refine Ex.normal_block ?_); refine Ex.next ?_)
            ((repeat refine JC.seq ?_); refine JC.region ?_)
            refine JL.pure rfl rfl ?_
            refine JL.arith rfl (by unfold In64; omega) rfl ?_
            refine JL.pure rfl rfl ?_
            refine JL.nil ?_
            (repeat refine Ex.normal_block ?_)
            refine Ex.again (k + 1) ⟨rfl, rfl, trivial⟩ ⟨h44, fun i h hi => ?_, H⟩ (by omega)
            by_cases hik : i = k
            · subst hik; omega
            · exact hno i h (by omega)
        · intro h44
          (try simp only [Bool.not_eq_true', Bool.not_eq_false', decide_eq_true_eq, decide_eq_false_iff_not] at h44)
          
          ((repeat refine JC.seq ?_); refine JC.exit ?_)
          (repeat (first | refine Ex.exit_then ?_ | refine Ex.exit_miss (by decide) ?_))
          refine Ex.exit_hit ?_
          ((repeat refine Ex.normal_block ?_); refine Ex.next ?_)
          ((repeat refine JC.seq ?_); refine JC.region ?_)
          refine JL.pure rfl rfl ?_
          refine JL.nil ?_
          ((repeat refine Ex.normal_block ?_); refine Ex.next ?_)
          ((repeat refine JC.seq ?_); refine JC.ret ?_)
          (repeat (first | refine Ex.ret_then ?_ | refine Ex.ret_block ?_))
          refine Ex.ret1 rfl (.tmp rfl) ⟨?_, H.below⟩
          unfold greatB
          have : (l.map Prod.snd).any (fun r => decide (300 < r.length)) = false := by
            rw [List.any_map, List.any_eq_false]
            intro x hx
            obtain ⟨i, hi, rfl⟩ := List.getElem_of_mem hx
            have := hno i hi (by omega)
            simp only [Function.comp_apply, decide_eq_true_eq]
            omega
          rw [h40, this]; rfl
end Go.J

namespace Go.J
set_option linter.unusedSimpArgs false
set_option linter.unusedVariables false
/-! plain: which cells a table's region has -/
def tabCov (T : Tab) (y : Nat) (x : Int) : Prop := spCov (T.getD y []) x
theorem tabCov0 (y : Nat) (x : Int) : ¬ tabCov tab0 y x := by
  rintro ⟨s, hs, _⟩
  have : tab0.getD y [] = [] := by
    unfold tab0
    rw [List.getD_eq_getElem?_getD, List.getElem?_replicate]
    split <;> rfl
  rw [this] at hs
  cases hs
theorem hasB_iff {rs : List Run} {c : Cell} : hasB rs c = true ↔ ∃ r ∈ rs, r.Y = c.Y ∧ r.From ≤ c.X ∧ c.X < r.To := by
  unfold hasB Run.has
  simp [List.any_eq_true, and_assoc]
theorem mem_getD {T : Tab} {y : Nat} {s : Span} (h : s ∈ T.getD y []) : ∃ l ∈ T, s ∈ l := by
  rw [List.getD_eq_getElem?_getD] at h
  cases hx : T[y]? with
  | none => rw [hx] at h; cases h
  | some l => rw [hx] at h; exact ⟨l, List.mem_of_getElem? hx, h⟩
theorem regR_has {W : Int} {k : Nat} {T : Tab} (hg : Tab.good W k T) (c : Cell) : hasB (regR T) c = true ↔ 0 ≤ c.Y ∧ c.Y < 256 ∧ tabCov T c.Y.toNat c.X := by
  rw [hasB_iff]
  have hn : ∀ y, ∀ x, spCov (norm (T.getD y [])) x ↔ spCov (T.getD y []) x := fun y => (norm_ok (l := T.getD y []) fun s hs => by
    obtain ⟨l, hl, hs'⟩ := mem_getD hs
    exact (hg.ne l hl s hs').1).2
  constructor
  · rintro ⟨r, hr, h1, h2, h3⟩
    unfold regR outR at hr
    rw [List.mem_flatMap] at hr
    obtain ⟨y, hy, hr⟩ := hr
    rw [List.mem_range] at hy
    unfold rowR at hr
    rw [List.mem_map] at hr
    obtain ⟨s, hs, rfl⟩ := hr
    simp only at h1 h2 h3
    refine ⟨by omega, by omega, ?_⟩
    rw [show c.Y.toNat = y by omega]
    exact (hn y c.X).1 ⟨s, hs, h2, h3⟩
  · rintro ⟨h1, h2, h3⟩
    obtain ⟨s, hs, h4, h5⟩ := (hn c.Y.toNat c.X).2 h3
    refine ⟨⟨(c.Y.toNat : Int), s.a, s.b⟩, ?_, by simp only; omega, h4, h5⟩
    unfold regR outR
    rw [List.mem_flatMap]
    refine ⟨c.Y.toNat, by rw [List.mem_range]; omega, ?_⟩
    unfold rowR
    rw [List.mem_map]
    exact ⟨s, hs, rfl⟩
theorem add_cov {T : Tab} (hT : T.length = 256) {W H y a b : Int} (hH : H ≤ 256) (Y : Nat) (x : Int) : tabCov (T.add W H y a b) Y x ↔ tabCov T Y x ∨ ((0 ≤ y ∧ y ≤ H - 1) ∧ (Y : Int) = y ∧ max 0 a ≤ x ∧ x < min b W) := by
  unfold Tab.add tabCov
  split
  · rename_i hc
    by_cases hY : Y = y.toNat
    · subst hY
      have hlt : y.toNat < T.length := by omega
      rw [show (T.set y.toNat (T.getD y.toNat [] ++ [⟨max 0 a, min b W⟩])).getD y.toNat [] = T.getD y.toNat [] ++ [⟨max 0 a, min b W⟩] by
        rw [List.getD_eq_getElem?_getD, List.getElem?_set_self hlt]; rfl]
      rw [spCov_append, spCov_one]
      constructor
      · rintro (h | h)
        · exact .inl h
        · exact .inr ⟨hc.1, by omega, h⟩
      · rintro (h | h)
        · exact .inl h
        · exact .inr h.2.2
    · rw [show (T.set y.toNat (T.getD y.toNat [] ++ [⟨max 0 a, min b W⟩])).getD Y [] = T.getD Y [] by
        rw [List.getD_eq_getElem?_getD, List.getElem?_set_ne (fun h => hY h.symm)]; simp [List.getD_eq_getElem?_getD]]
      constructor
      · exact .inl
      · rintro (h | h)
        · exact h
        · exfalso; omega
  · rename_i hc
    constructor
    · exact .inl
    · rintro (h | h)
      · exact h
      · exfalso; apply hc; omega
theorem growRow_cov {T : Tab} {W H a b lo : Int} {k : Nat} (hg : Tab.good W k T) (hH : H ≤ 256) (Y : Nat) (x : Int) : ∀ n, tabCov (growRow W H a b lo T n) Y x ↔ tabCov T Y x ∨ ((0 ≤ (Y : Int) ∧ (Y : Int) ≤ H - 1) ∧ lo ≤ Y ∧ (Y : Int) < lo + n ∧ max 0 a ≤ x ∧ x < min b W) := by
  intro n
  induction n with
  | zero =>
    constructor
    · exact .inl
    · rintro (h | h)
      · exact h
      · exfalso; omega
  | succ n ih =>
    rw [growRow_succ, add_cov (growRow_good hg n).len hH, ih]
    constructor
    · rintro ((h | h) | h)
      · exact .inl h
      · exact .inr (by omega)
      · exact .inr (by omega)
    · rintro (h | h)
      · exact .inl (.inl h)
      · by_cases hy : (Y : Int) = lo + n
        · exact .inr (by omega)
        · exact .inl (.inr (by omega))
/-- the cells that a run grows to -/
def inGrow (g : Grid) (l : Lead) (r : Run) (c : Cell) : Prop := (0 ≤ c.Y ∧ c.Y ≤ g.H - 1) ∧ (0 ≤ c.X ∧ c.X < g.W) ∧ (r.Y + l.s ≤ c.Y ∧ c.Y ≤ r.Y + l.n) ∧ r.From + l.w ≤ c.X ∧ c.X < r.To + l.e
theorem grow1_cov {g : Grid} (hH : 1 ≤ g.H ∧ g.H ≤ 256) {T : Tab} {k : Nat} (hg : Tab.good g.W k T) (l : Lead) (r : Run) (c : Cell) (hc : 0 ≤ c.Y) : tabCov (grow1 g l T r) c.Y.toNat c.X ↔ tabCov T c.Y.toNat c.X ∨ inGrow g l r c := by
  unfold grow1 inGrow
  rw [growRow_cov hg hH.2]
  unfold growCnt
  constructor
  · rintro (h | h)
    · exact .inl h
    · exact .inr (by omega)
  · rintro (h | h)
    · exact .inl h
    · exact .inr (by omega)
theorem growT_cov {g : Grid} (hH : 1 ≤ g.H ∧ g.H ≤ 256) (l : Lead) (c : Cell) (hc : 0 ≤ c.Y) : ∀ (rs : List Run) (T : Tab) (k : Nat), Tab.good g.W k T → (tabCov (rs.foldl (grow1 g l) T) c.Y.toNat c.X ↔ tabCov T c.Y.toNat c.X ∨ ∃ r ∈ rs, inGrow g l r c) := by
  intro rs
  induction rs with
  | nil => intro T k _; simp
  | cons r rs ih =>
    intro T k hT
    have h1 : Tab.good g.W (k + growCnt g l r) (grow1 g l T r) := growRow_good hT _
    rw [List.foldl_cons, ih _ _ h1, grow1_cov hH hT l r c hc]
    simp only [List.mem_cons]
    constructor
    · rintro ((h | h) | ⟨q, hq, h⟩)
      · exact .inl h
      · exact .inr ⟨r, .inl rfl, h⟩
      · exact .inr ⟨q, .inr hq, h⟩
    · rintro (h | ⟨q, rfl | hq, h⟩)
      · exact .inl (.inl h)
      · exact .inl (.inr h)
      · exact .inr ⟨q, hq, h⟩
theorem growT_has {g : Grid} (hH : 1 ≤ g.H ∧ g.H ≤ 256) (l : Lead) (rs : List Run) (c : Cell) : hasB (regR (growT g l rs)) c = true ↔ ∃ r ∈ rs, inGrow g l r c := by
  have hg := growT_good hH l rs rs.length (Nat.le_refl _)
  rw [List.take_length] at hg
  rw [regR_has hg]
  constructor
  · rintro ⟨h1, h2, h3⟩
    rcases (growT_cov hH l c h1 rs tab0 0 (tab0_good _)).1 h3 with h | h
    · exact absurd h (tabCov0 _ _)
    · exact h
  · rintro ⟨r, hr, h⟩
    have h1 := h
    unfold inGrow at h1
    exact ⟨h1.1.1, by omega, (growT_cov hH l c h1.1.1 rs tab0 0 (tab0_good _)).2 (.inr ⟨r, hr, h⟩)⟩
end Go.J

namespace Go.J
set_option linter.unusedSimpArgs false
set_option linter.unusedVariables false
theorem growR_len (g : Grid) (r : List Run) (p : Push) : (growR g r p).1.length ≤ 8192 := by
  unfold growR
  split
  · split
    · unfold regRes; split <;> simp_all
    · simp
  · simp
end Go.J

namespace Go.J
open Go.RowKit Go.Proofs
set_option maxRecDepth 8000
set_option linter.unusedSimpArgs false
set_option linter.unusedVariables false
theorem nilSl (w : World) : Sl (Prod.fst : Value × List Run → Value) (false, 1) w (.slice none 0 0) [] := ⟨by simp, none, 0, rfl, .inl rfl⟩
end Go.J
