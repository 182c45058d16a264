/-
  Lemmas for the statements of this seat; no statement is proved here. No condition.
-/
import Derived.Test.YtfbmgmdjaoackaaJApp
import Derived.Test.YtfbmgmdjaoackaaG1
namespace Go.J
set_option linter.unusedSimpArgs false
set_option linter.unusedVariables false
open Go.RowKit
/-- a row of ours, element by element -/
def trow {α : Type} (e : TypeId) (sz : Nat) (enc : α → List Value) (v : Value) (l : List α) : HP := row e sz v l.length (l.flatMap enc)
theorem flat_len {α : Type} {enc : α → List Value} {sz : Nat} (he : ∀ x, (enc x).length = sz) (l : List α) : (l.flatMap enc).length = l.length * sz := by
  induction l with
  | nil => simp
  | cons x l ih => simp [ih, he, Nat.add_mul]; omega
theorem flat_drop {α : Type} {enc : α → List Value} {sz : Nat} (he : ∀ x, (enc x).length = sz) : ∀ (l : List α) (i : Nat), (l.flatMap enc).drop (i * sz) = (l.drop i).flatMap enc := by
  intro l
  induction l with
  | nil => simp
  | cons x l ih =>
    intro i
    cases i with
    | zero => simp
    | succ i =>
      simp only [List.flatMap_cons, List.drop_succ_cons]
      rw [show (i + 1) * sz = (enc x).length + i * sz by rw [he, Nat.add_mul]; omega, ← List.drop_drop]
      simp [ih]
theorem flat_take {α : Type} {enc : α → List Value} {sz : Nat} (he : ∀ x, (enc x).length = sz) : ∀ (l : List α) (i : Nat), (l.flatMap enc).take (i * sz) = (l.take i).flatMap enc := by
  intro l
  induction l with
  | nil => simp
  | cons x l ih =>
    intro i
    cases i with
    | zero => simp
    | succ i =>
      simp only [List.flatMap_cons, List.take_succ_cons]
      rw [show (i + 1) * sz = (enc x).length + i * sz by rw [he, Nat.add_mul]; omega, List.take_length_add_append, ih]
theorem flat_get {α : Type} {enc : α → List Value} {sz : Nat} (he : ∀ x, (enc x).length = sz) {l : List α} {i : Nat} {x : α} (hx : l[i]? = some x) {q : Nat} (hq : q < sz) : (l.flatMap enc)[i * sz + q]? = (enc x)[q]? := by
  rw [← List.getElem?_drop, flat_drop he]
  have hi : i < l.length := (List.getElem?_eq_some_iff.1 hx).1
  have : l.drop i = x :: l.drop (i + 1) := by
    rw [List.drop_eq_getElem_cons hi]
    congr 1
    exact (List.getElem?_eq_some_iff.1 hx).2
  rw [this, List.flatMap_cons, List.getElem?_append_left (by rw [he]; exact hq)]
theorem trow_snoc {α : Type} (e : TypeId) (sz : Nat) (enc : α → List Value) (v : Value) (l : List α) (x : α) : row e sz v (l.length + 1) (l.flatMap enc ++ enc x) = trow e sz enc v (l ++ [x]) := by
  unfold trow; simp
/-- an element of a row of ours, read -/
theorem Own.rowAt {α : Type} {w0 w : World} {L : List HP} (H : Own w0 w L) {j : Nat} {e : TypeId} {sz : Nat} {enc : α → List Value} {v : Value} {l : List α} (he : ∀ x, (enc x).length = sz)
    (hj : L[j]? = some (trow e sz enc v l)) {i : Nat} {x : α} (hx : l[i]? = some x) :
    ∃ g c, v = .slice (some ⟨g, 0, none⟩) l.length c ∧ w0.heap.size ≤ g ∧ g < w.heap.size ∧ ∀ q u, (enc x)[q]? = some u → w.cell? ⟨g, i * sz + q, none⟩ = some u := by
  obtain ⟨h1, h2⟩ := H.row_shape hj
  have hi : i < l.length := (List.getElem?_eq_some_iff.1 hx).1
  rcases h2 with ⟨_, h⟩ | ⟨g, cap, cur, rfl, h3, h4, h5, h6, h7, h8, _⟩
  · omega
  · refine ⟨g, cap, rfl, h7, lt_of_block h8, fun q u hu => ?_⟩
    have hq : q < sz := by
      have := (List.getElem?_eq_some_iff.1 hu).1
      rwa [he] at this
    have := flat_get he hx hq
    rw [hu, ← h6, List.getElem?_take] at this
    split at this
    · simp only [World.cell?, h8]
      simpa using this
    · cases this
theorem Own.rowLd {α : Type} {w0 w : World} {L : List HP} (H : Own w0 w L) {j : Nat} {e : TypeId} {sz : Nat} {enc : α → List Value} {g n c : Nat} {l : List α} (he : ∀ x, (enc x).length = sz)
    (hj : L[j]? = some (trow e sz enc (.slice (some ⟨g, 0, none⟩) n c) l)) {i : Nat} {x : α} (hx : l[i]? = some x) : LdAt w g (0 + i * sz) (true, sz) (.agg ⟨enc x⟩) := by
  obtain ⟨g', c', h, _, _, hc⟩ := H.rowAt he hj hx
  cases h
  exact ⟨enc x, rfl, he x, fun q u hu => by rw [Nat.zero_add]; exact hc q u hu⟩
theorem Own.rowLd1 {α : Type} {w0 w : World} {L : List HP} (H : Own w0 w L) {j k : Nat} {e : TypeId} {ev : α → Value} {g n c : Nat} {l : List α}
    (hj : L[j]? = some (trow e 1 (fun x => [ev x]) (.slice (some ⟨g, 0, none⟩) n c) l)) {i : Nat} {x : α} (hx : l[i]? = some x) : LdAt w g (0 + i * 1) (false, k) (ev x) := by
  obtain ⟨g', c', h, _, _, hc⟩ := H.rowAt (sz := 1) (enc := fun x => [ev x]) (fun _ => rfl) hj hx
  cases h
  have := hc 0 (ev x) rfl
  show w.cell? _ = _
  simpa using this
/-- a row of ours reads as a slice -/
theorem Own.rowSl {α : Type} {w0 w : World} {L : List HP} (H : Own w0 w L) {j : Nat} {e : TypeId} {sz : Nat} {enc : α → List Value} {v : Value} {l : List α} (he : ∀ x, (enc x).length = sz)
    (hj : L[j]? = some (trow e sz enc v l)) (hn : l.length ≤ 9223372036854775807) : Sl (fun x => .agg ⟨enc x⟩) (true, sz) w v l := by
  obtain ⟨h1, h2⟩ := H.row_shape hj
  rcases h2 with ⟨rfl, h⟩ | ⟨g, cap, cur, rfl, h3, h4, h5, h6, h7, h8, _⟩
  · exact ⟨hn, none, 0, by rw [h], .inl (List.eq_nil_of_length_eq_zero h)⟩
  · refine ⟨hn, _, cap, rfl, .inr ⟨g, 0, rfl, lt_of_block h8, fun i x hx => H.rowLd he hj hx⟩⟩
theorem Own.rowSl1 {α : Type} {w0 w : World} {L : List HP} (H : Own w0 w L) {j : Nat} {e : TypeId} {ev : α → Value} {v : Value} {l : List α}
    (hj : L[j]? = some (trow e 1 (fun x => [ev x]) v l)) (hn : l.length ≤ 9223372036854775807) : Sl ev (false, 1) w v l := by
  obtain ⟨h1, h2⟩ := H.row_shape hj
  rcases h2 with ⟨rfl, h⟩ | ⟨g, cap, cur, rfl, h3, h4, h5, h6, h7, h8, _⟩
  · exact ⟨hn, none, 0, by rw [h], .inl (List.eq_nil_of_length_eq_zero h)⟩
  · refine ⟨hn, _, cap, rfl, .inr ⟨g, 0, rfl, lt_of_block h8, fun i x hx => H.rowLd1 hj hx⟩⟩
theorem Own.blkRow {α : Type} {w0 w : World} {L : List HP} (H : Own w0 w L) {j β : Nat} {e : TypeId} {sz : Nat} {enc : α → List Value} {cs : List Value} (hj : L[j]? = some (blk β (.cells ⟨cs⟩ e (0, 0)))) (l : List α) (hcs : cs = l.flatMap enc)
    (he : ∀ x, (enc x).length = sz) (hn : l.length ≤ 9223372036854775807) : Own w0 w (L.set j (trow e sz enc (.slice (some ⟨β, 0, none⟩) l.length l.length) l)) :=
  H.upd hj (fun h hb => by
    have hl := flat_len he l
    exact row_of_blk hl (Nat.le_refl _) (by simp only [maxLen]; omega) (by simp [hcs, hl]) (by simp only [hcs]; rw [← hl, List.take_length]) h hb)
theorem Own.blkSl {α : Type} {w0 w : World} {L : List HP} (H : Own w0 w L) {j β : Nat} {e : TypeId} {sz : Nat} {enc : α → List Value} {cs : List Value} (hj : L[j]? = some (blk β (.cells ⟨cs⟩ e (0, 0)))) (l : List α) (hcs : cs = l.flatMap enc)
    (he : ∀ x, (enc x).length = sz) (hn : l.length ≤ 9223372036854775807) : Sl (fun x => .agg ⟨enc x⟩) (true, sz) w (.slice (some ⟨β, 0, none⟩) l.length l.length) l :=
  (H.blkRow hj l hcs he hn).rowSl he (List.getElem?_set_self (List.getElem?_eq_some_iff.1 hj).1) hn
theorem Own.blkSl1 {α : Type} {w0 w : World} {L : List HP} (H : Own w0 w L) {j β : Nat} {e : TypeId} {ev : α → Value} {cs : List Value} (hj : L[j]? = some (blk β (.cells ⟨cs⟩ e (0, 0)))) (l : List α) (hcs : cs = l.flatMap fun x => [ev x])
    (hn : l.length ≤ 9223372036854775807) : Sl ev (false, 1) w (.slice (some ⟨β, 0, none⟩) l.length l.length) l :=
  (H.blkRow (enc := fun x => [ev x]) hj l hcs (fun _ => rfl) hn).rowSl1 (List.getElem?_set_self (List.getElem?_eq_some_iff.1 hj).1) hn
theorem setLK_at' {α : Type} {x : HP} : ∀ {i : Nat} {L : List HP} (k : List HP → Option α), i < L.length → setLK x i L k = k (L.set i x) := by
  intro i
  induction i with
  | zero => intro L k h; cases L with
    | nil => simp at h
    | cons c cs => rfl
  | succ o ih => intro cs k h; cases cs with
    | nil => simp at h
    | cons c cs => simp only [setLK, List.set_cons_succ]; exact ih _ (by simpa using h)
theorem setK_gen {α : Type} : ∀ {o : Nat} {vs cs : List Value} (k : List Value → Option α), o + vs.length ≤ cs.length → setK o vs cs k = k (cs.take o ++ vs ++ cs.drop (o + vs.length)) := by
  intro o
  induction o with
  | zero =>
    intro vs
    induction vs with
    | nil => intro cs k _; simp [setK]
    | cons v vs ih =>
      intro cs k h
      cases cs with
      | nil => simp at h
      | cons c cs =>
        simp only [setK]
        rw [ih _ (by simp at h ⊢; omega)]
        simp
  | succ o ih =>
    intro vs cs k h
    cases cs with
    | nil => simp at h
    | cons c cs =>
      simp only [setK]
      rw [ih _ (by simp at h ⊢; omega)]
      simp [Nat.add_right_comm]
section
variable {P : Program} {N : Sz} {ops : Array Oper} {Q : Exit → Act → World → Prop} {rest : List Oper} {fr : Fr} {w w0 : World} {L : List HP}
  {d : Option Tmp} {ty : TypeId} {pos : String} {af : Array Edge}
theorem List.set_eq_take_drop {α : Type} (l : List α) (i : Nat) (x : α) (h : i < l.length) : l.set i x = l.take i ++ x :: l.drop (i + 1) := by
  rw [List.set_eq_take_append_cons_drop, if_pos h]
/-- a store into a row of ours -/
theorem JL.storeRow {α : Type} {x y : Operand} {t : TypeId} {g n c sz i : Nat} {b : Bool} {v : Value} {e : TypeId} {enc : α → List Value} {l : List α} (j : Nat) (H : Own w0 w L) (he : ∀ x, (enc x).length = sz)
    (hj : L[j]? = some (trow e sz enc (.slice (some ⟨g, 0, none⟩) n c) l)) (u : α) (hx : fr.ev x = some (.pointer (some ⟨g, 0 + i * sz, none⟩))) (hy : fr.ev y = some v) (hs : tySh P t = some (b, sz))
    (hv : cellsL v = enc u) (h1 : allOne (enc u) = true) (hi : i < l.length)
    (k : ∀ w', Own w0 w' (L.set j (trow e sz enc (.slice (some ⟨g, 0, none⟩) n c) (l.set i u))) → JL P N ops Q rest fr w') : JL P N ops Q (⟨none, .store t x y, ty, pos, af, none⟩ :: rest) fr w := by
  obtain ⟨h2, h3⟩ := H.row_shape hj
  have hjl : j < L.length := (List.getElem?_eq_some_iff.1 hj).1
  rcases h3 with ⟨h, _⟩ | ⟨g', cap, cur, h, h4, h5, h6, h7, h8, h9, H'⟩
  · cases h
  cases h
  have hfit : (0 + i * sz) + (cellsL v).length ≤ cur.toList.length := by
    rw [hv, he, Nat.zero_add]
    have e1 : (i + 1) * sz ≤ l.length * sz := Nat.mul_le_mul_right _ hi
    have e2 : l.length * sz ≤ c * sz := Nat.mul_le_mul_right _ h4
    rw [Nat.add_mul, Nat.one_mul] at e1
    simp only [Array.length_toList, h6]
    omega
  refine JL.storeB (cs := cur.toList) (cs' := cur.toList.take (0 + i * sz) ++ cellsL v ++ cur.toList.drop (0 + i * sz + (cellsL v).length)) (L' := L.set j (blk g (.cells ⟨cur.toList.take (0 + i * sz) ++ cellsL v ++ cur.toList.drop (0 + i * sz + (cellsL v).length)⟩ e (0, 0)))) j H' hx hy hs
    (e := e) (by rw [List.getElem?_set_self hjl]) (by rw [hv, he]) (by rw [hv]; exact h1) (setK_gen _ hfit) (by rw [setLK_at' _ (by simpa using hjl), List.set_set]) fun w' HH => k w' ?_
  have hl2 : ((l.set i u).flatMap enc).length = (l.set i u).length * sz := flat_len he _
  have hrow : ∀ h, blk g (.cells ⟨cur.toList.take (0 + i * sz) ++ cellsL v ++ cur.toList.drop (0 + i * sz + (cellsL v).length)⟩ e (0, 0)) h → trow e sz enc (.slice (some ⟨g, 0, none⟩) l.length c) (l.set i u) h := by
    intro h hb
    have hfit' := hfit
    rw [hv, he, Nat.zero_add] at hfit'
    rw [hv, he, Nat.zero_add] at hb
    have := row_of_blk (e := e) (sz := sz) (g := g) (n := (l.set i u).length) (cap := c) (xs := (l.set i u).flatMap enc) hl2 (by simpa using h4) h5 (by
      simp only [List.size_toArray, List.length_append, List.length_take, List.length_drop, he]
      simp only [Array.length_toList, h6] at hfit' ⊢
      omega) (by
      simp only [List.length_set]
      rw [List.set_eq_take_drop _ _ _ hi]
      simp only [List.flatMap_append, List.flatMap_cons]
      rw [← flat_take he, ← flat_drop he]
      have e1 : (i + 1) * sz ≤ l.length * sz := Nat.mul_le_mul_right _ hi
      rw [Nat.add_mul, Nat.one_mul] at e1
      rw [← h7, List.take_take, Nat.min_eq_left (by omega), List.append_assoc]
      rw [List.take_append, List.take_take]
      have e3 : (List.take (i * sz) cur.toList).length = i * sz := by simp at hfit' ⊢; omega
      rw [e3, Nat.min_eq_right (by omega)]
      congr 1
      rw [List.take_append, he, List.take_of_length_le (by rw [he]; omega)]
      congr 1
      rw [show (i + 1) * sz = i * sz + sz by rw [Nat.add_mul, Nat.one_mul], List.drop_take]
      congr 1
      omega) h hb
    simpa [trow] using this
  have H3 := HH.upd (List.getElem?_set_self hjl) hrow
  rw [List.set_set] at H3
  exact H3
end
end Go.J
