/-
  Lemmas for the statements of this seat; no statement is proved here. No condition.
-/
import Derived.Test.YtfbmgmdjaoackaaJLay
namespace Go.J
set_option linter.unusedSimpArgs false
set_option linter.unusedVariables false
open Go.RowKit Go.Proofs Go.Shelf Go.Lib Go.Sort
set_option maxRecDepth 8000
abbrev BSpan := { s : Span // -1152921504606846976 ≤ s.a ∧ s.a ≤ 1152921504606846976 }
instance : Inhabited BSpan := ⟨⟨⟨0, 0⟩, by decide⟩⟩
def BSpan.enc (s : BSpan) : List Value := s.1.cs
def bcmp (x y : BSpan) : Int := x.1.a - y.1.a
theorem wrap_sub {a b : Int} (ha : -1152921504606846976 ≤ a ∧ a ≤ 1152921504606846976) (hb : -1152921504606846976 ≤ b ∧ b ≤ 1152921504606846976) : IntKind.i64.wrap (a - b) = a - b := w64_id (by unfold In64; omega)
set_option maxHeartbeats 1000000 in
theorem cmp218 (x y : BSpan) (W : World) : Calls Try.prog 218 #[.agg #[.int .i64 x.1.a, .int .i64 x.1.b], .agg #[.int .i64 y.1.a, .int .i64 y.1.b]] W fun e w' => e = .returned (.int .i64 (bcmp x y)) ∧ ∃ q os', w' = grow (W.drewN q) os' := by
  have hw := wrap_sub x.2 y.2
  unfold bcmp
  generalize x.1.a = p, x.1.b = q, y.1.a = r, y.1.b = s at *
  go_enter Try.func218, Try.ntmps218
  go_wp2
  go_ret
  exact ⟨rfl, 0, _, by rw [alloc_eq_grow, alloc_eq_grow, grow_grow]; rfl⟩
theorem sh306' : tySh Try.prog 306 = some (true, 2) := by kernel_rfl
theorem fb218' : hasBody Try.prog 218 = true := by kernel_rfl
theorem cmpLays218 (blk off size : Nat) (w : World) : CmpLays Try.prog 218 #[] BSpan.enc 2 bcmp blk off size w := fun _ _ _ _ x y => cmp218 x y _
theorem swo218 : SWO (ltOf bcmp) where
  irrefl x := by unfold ltOf bcmp; simp
  trans x y z h1 h2 := by unfold ltOf bcmp at *; simp at *; omega
  ntrans x y z h1 h2 := by unfold ltOf bcmp at *; simp at *; omega
theorem spCells_get : ∀ (xs : List Span) (j : Nat), (spCells xs)[j]? = (xs[j / 2]?).bind fun s => s.cs[j % 2]? := by
  intro xs
  induction xs with
  | nil => intro j; simp [spCells]
  | cons x xs ih =>
    intro j
    have hc : spCells (x :: xs) = .int .i64 x.a :: .int .i64 x.b :: spCells xs := by simp [spCells, Span.cs]
    rw [hc]
    match j with
    | 0 => simp [Span.cs]
    | 1 => simp [Span.cs]
    | j + 2 =>
      simp only [List.getElem?_cons_succ]
      rw [ih j, show (j + 2) / 2 = j / 2 + 1 by omega, show (j + 2) % 2 = j % 2 by omega]
      simp
theorem lift_spans : ∀ (xs : List Span), (∀ s ∈ xs, -1152921504606846976 ≤ s.a ∧ s.a ≤ 1152921504606846976) → ∃ ds : List BSpan, ds.map (·.1) = xs := by
  intro xs
  induction xs with
  | nil => intro _; exact ⟨[], rfl⟩
  | cons x xs ih =>
    intro h
    obtain ⟨ds, hd⟩ := ih fun s hs => h s (List.mem_cons_of_mem _ hs)
    exact ⟨⟨x, h x List.mem_cons_self⟩ :: ds, by simp [hd]⟩
theorem flat_spCells (d : Array BSpan) : (flatK BSpan.enc 2 d).toList = spCells (d.toList.map (·.1)) := by
  apply List.ext_getElem?
  intro j
  rw [spCells_get]
  by_cases hj : j < d.size * 2
  · have h1 : j / 2 < d.size := by omega
    have h2 : (flatK BSpan.enc 2 d).toList[j]? = some (flatK BSpan.enc 2 d)[j]! := by
      rw [getElem!_pos (flatK BSpan.enc 2 d) j (by simpa using hj)]; simp [hj]
    rw [h2, get_flatK _ _ _ _ hj]
    rw [getElem!_pos d (j / 2) h1]
    have h3 : j % 2 < (BSpan.enc d[j / 2]).length := by show j % 2 < 2; omega
    rw [getElem!_pos (BSpan.enc d[j / 2]) (j % 2) h3]
    simp only [h1, Array.getElem?_toList, List.getElem?_map, Array.getElem?_eq_getElem, Option.map_some, Option.bind_some]
    exact (List.getElem?_eq_getElem h3).symm
  · have h1 : ¬ j / 2 < d.size := by omega
    have : (flatK BSpan.enc 2 d).toList[j]? = none := by simp; omega
    rw [this]
    simp [h1]
theorem sort_some {w0 w : World} {L : List HP} (H : Own w0 w L) {j : Nat} {g cap : Nat} {xs : List Span} (hj : L[j]? = some (spRow (.slice (some ⟨g, 0, none⟩) xs.length cap) xs)) (hx : ∀ s ∈ xs, -1152921504606846976 ≤ s.a ∧ s.a ≤ 1152921504606846976) (hn : xs.length ≤ 1000000000000) :
    Calls Try.prog 275 #[.slice (some ⟨g, 0, none⟩) xs.length cap, .func (.func 218) #[] #[]] w
      (fun e w' => e = .returned (.tuple #[]) ∧ ∃ ys : List Span, ys.Perm xs ∧ ys.Pairwise (fun a b => a.a ≤ b.a) ∧ Own w0 w' (L.set j (spRow (.slice (some ⟨g, 0, none⟩) xs.length cap) ys))) := by
  obtain ⟨hlen, hs⟩ := H.row_shape hj
  rcases hs with ⟨h, _⟩ | ⟨g', cap', cur, h, h1, h2, h3, h4, h5, h6, H'⟩
  · cases h
  cases h
  obtain ⟨ds, rfl⟩ := lift_spans xs hx
  have hjl : j < L.length := (List.getElem?_eq_some_iff.1 hj).1
  have hsz : ds.toArray.size = (ds.map (·.1)).length := by simp
  have hF := flat_spCells ds.toArray
  simp only at hF
  have hH : HoldsK BSpan.enc 2 w g 0 ds.toArray := by
    intro q hq
    have hq' : q < ds.length * 2 := by simpa using hq
    have e1 : (flatK BSpan.enc 2 ds.toArray).toList[q]? = some (flatK BSpan.enc 2 ds.toArray)[q]! := by
      rw [getElem!_pos (flatK BSpan.enc 2 ds.toArray) q hq]; simp
    rw [hF, ← h4] at e1
    rw [List.getElem?_take] at e1
    split at e1
    · refine ⟨?_, ?_⟩
      · simp only [World.cell?, h6, Nat.zero_add, id]
        simpa using e1
      · simp [World.frozen?, h6]
    · cases e1
  have hlt := lt_of_block h6
  have hcon := AnyQ.slices_SortFunc Try.sortSpan 2 (fun w => (tySh_agg sh306' w).1) (fun w => (tySh_agg sh306' w).2) BSpan.enc (fun _ => rfl) (fun x v hv => by simp [BSpan.enc, Span.cs] at hv; rcases hv with rfl | rfl <;> rfl) bcmp swo218 218 #[] g 0 cap ds.toArray w (callFunc_run fb218') (cmpLays218 _ _ _ _) hH hlt (by
    rw [hsz]; omega)
  rw [hsz] at hcon
  refine Calls.mono hcon ?_
  rintro e w' ⟨rfl, d', n, os, hp, hso, rfl⟩
  obtain ⟨hp1, _, hp3⟩ := hp
  have hd1 : (d'.extract 0 (ds.map (·.1)).length).toList = d'.toList := by rw [← hsz, ← hp1]; simp
  have hd2 : (ds.toArray.extract 0 (ds.map (·.1)).length).toList = ds := by rw [← hsz]; simp
  rw [hd1, hd2] at hp3
  have hlen' : d'.size = ds.length := by simpa using hp1
  refine ⟨rfl, d'.toList.map (·.1), hp3.map _, ?_, ?_⟩
  · rw [List.pairwise_map, List.pairwise_iff_getElem]
    intro p q hp hq hpq
    have h := hso p q (Nat.zero_le _) hpq (by simp at hq ⊢; omega)
    rw [getElem!_pos d' q (by simpa using hq), getElem!_pos d' p (by simpa using hp)] at h
    have h := of_decide_eq_false h
    unfold bcmp at h
    simp only [Array.getElem_toList]
    omega
  · have hF' := flat_spCells d'
    have hcells : (sortWorldK BSpan.enc 2 w g 0 n d' os).heap[g]? = some (.cells (putCells id 0 (flatK BSpan.enc 2 d') cur) 306 (0, 0)) := by
      show ((w.heap.modify g (onCells (putCells id 0 (flatK BSpan.enc 2 d')))) ++ os)[g]? = _
      rw [Array.getElem?_append_left (by simpa using hlt), Array.getElem?_modify, if_pos rfl, h6]
      rfl
    have H2 := H'.put (i := j) (β := g) (o := .cells cur 306 (0, 0)) (by simp [hjl]) (.cells (putCells id 0 (flatK BSpan.enc 2 d') cur) 306 (0, 0)) (w' := sortWorldK BSpan.enc 2 w g 0 n d' os)
      rfl rfl rfl (size_sortWorldK_c _ _ _ _ _ _ _ _) (fun k hk hk2 => by
        show ((w.heap.modify g (onCells (putCells id 0 (flatK BSpan.enc 2 d')))) ++ os)[k]? = _
        rw [Array.getElem?_append_left (by simpa using hk2), Array.getElem?_modify, if_neg (fun h => hk h.symm)]) hcells
    rw [List.set_set] at H2
    have hl2 : (spCells (d'.toList.map (·.1))).length = (ds.map (·.1)).length * 2 := by rw [spCells_len]; simp [hlen']
    have hrow := row_of_blk (e := 306) (sz := 2) (g := g) (n := (ds.map (·.1)).length) (cap := cap) (xs := spCells (d'.toList.map (·.1))) (cur := putCells id 0 (flatK BSpan.enc 2 d') cur) hl2 h1 h2
      (by simp [putCells, h3]) (by
        apply List.ext_getElem?
        intro q
        rw [← hF', List.getElem?_take]
        by_cases hq : q < (ds.map (·.1)).length * 2
        · have hq2 : q < d'.size * 2 := by simp at hq; omega
          have hq3 : q < cur.size := by
            have := Nat.mul_le_mul_right 2 h1
            omega
          rw [if_pos hq]
          simp only [putCells, Array.getElem?_toList, Array.getElem?_mapIdx]
          rw [Array.getElem?_eq_getElem hq3]
          simp only [Option.map_some, Nat.zero_le, Nat.zero_add, size_flatK, hq2, true_and, if_true, id, Nat.sub_zero]
          rw [getElem!_pos (flatK BSpan.enc 2 d') q (by simpa using hq2)]
          rw [Array.getElem?_eq_getElem (by simpa using hq2)]
        · have hq2 : ¬ q < d'.size * 2 := by simp at hq; omega
          rw [if_neg hq]
          symm
          simp; omega)
    have H3 := H2.upd (List.getElem?_set_self hjl) hrow
    rw [List.set_set] at H3
    unfold spRow
    rw [show (d'.toList.map (·.1)).length = (ds.map (·.1)).length by simp [hlen']]
    exact H3
end Go.J
