/-
  Lemmas for the statements of this seat; no statement is proved here. No condition.
-/
import Derived.Test.YtfbmgmdjaoackaaG3
import Derived.Test.YtfbmgmdjaoackaaJApp
namespace Go.J
set_option linter.unusedSimpArgs false
set_option linter.unusedVariables false
open Go.RowKit Go.Proofs
set_option maxRecDepth 8000

theorem starL_split {L M : List HP} {h : Hp} (H : starL (L ++ M) h) : star (starL L) (starL M) h := by
  induction L generalizing h with
  | nil => exact ⟨fun _ => none, h, fun _ => .inl rfl, by funext k; simp [Hp.add], fun _ => rfl, H⟩
  | cons A L ih => exact star_assoc' (star_mono (fun _ h => h) (fun _ h => ih h) H)
theorem Own.cast {w0 w : World} {L M : List HP} (H : Own w0 w M) (h : L = M) : Own w0 w L := h ▸ H
theorem Own.row_slice {w0 w : World} {L : List HP} (H : Own w0 w L) {j : Nat} {e : TypeId} {sz : Nat} {v : Value} {n : Nat} {xs : List Value} (hi : L[j]? = some (row e sz v n xs)) : ∃ a c, v = .slice a n c := by
  obtain ⟨_, h⟩ := H.row_shape hi
  rcases h with ⟨rfl, rfl⟩ | ⟨g, cap, cur, rfl, _⟩
  · exact ⟨_, _, rfl⟩
  · exact ⟨_, _, rfl⟩
structure Span where
  a : Int
  b : Int
deriving DecidableEq
def Span.cs (s : Span) : List Value := [.int .i64 s.a, .int .i64 s.b]
abbrev Tab := List (List Span)
def spCells (xs : List Span) : List Value := xs.flatMap Span.cs
theorem spCells_len (xs : List Span) : (spCells xs).length = xs.length * 2 := by
  induction xs with
  | nil => rfl
  | cons x xs ih => simp only [spCells, List.flatMap_cons, List.length_append, List.length_cons] at *; rw [ih]; simp [Span.cs]; omega
def spRow (v : Value) (xs : List Span) : HP := row 306 2 v xs.length (spCells xs)
def rowsL (vs : List Value) (T : Tab) : List HP := List.zipWith spRow vs T
def tbl (β : Nat) (T : Tab) : HP := fun h => ∃ vs : List Value, vs.length = 256 ∧ T.length = 256 ∧ star (blk β (.cells ⟨vs⟩ 195 (0, 0))) (starL (rowsL vs T)) h
theorem Own.openT {w0 w : World} {L : List HP} {β : Nat} {T : Tab} (H : Own w0 w (tbl β T :: L)) :
    ∃ vs : List Value, vs.length = 256 ∧ T.length = 256 ∧ Own w0 w (blk β (.cells ⟨vs⟩ 195 (0, 0)) :: (rowsL vs T ++ L)) := by
  obtain ⟨hB, h, hl, x, y, d, rfl, ⟨vs, h1, h2, h3⟩, hs⟩ := H
  refine ⟨vs, h1, h2, hB, _, hl, ?_⟩
  have : star (star (blk β (.cells ⟨vs⟩ 195 (0, 0))) (starL (rowsL vs T))) (starL L) (x.add y) := ⟨x, y, d, rfl, h3, hs⟩
  exact star_mono (fun _ h => h) (fun _ h => starL_append h) (star_assoc this)
theorem Own.closeT {w0 w : World} {L : List HP} {β : Nat} {T : Tab} {vs : List Value} (h1 : vs.length = 256) (h2 : T.length = 256)
    (H : Own w0 w (blk β (.cells ⟨vs⟩ 195 (0, 0)) :: (rowsL vs T ++ L))) : Own w0 w (tbl β T :: L) := by
  refine H.entail fun h hs => ?_
  have hs' : star (blk β (.cells ⟨vs⟩ 195 (0, 0))) (starL (rowsL vs T ++ L)) h := hs
  exact star_mono (fun _ h => ⟨vs, h1, h2, h⟩) (fun _ h => h) (star_assoc' (star_mono (fun _ h => h) (fun _ h => starL_split h) hs'))
theorem rowsL_len {vs : List Value} {T : Tab} (h1 : vs.length = 256) (h2 : T.length = 256) : (rowsL vs T).length = 256 := by simp [rowsL, h1, h2]
theorem rowsL_get {vs : List Value} {T : Tab} {y : Nat} {v : Value} {xs : List Span} (hv : vs[y]? = some v) (hx : T[y]? = some xs) : (rowsL vs T)[y]? = some (spRow v xs) := by
  simp [rowsL, List.getElem?_zipWith, hv, hx]
theorem zipWith_set' {α β γ : Type} (f : α → β → γ) : ∀ (l : List α) (m : List β) (i : Nat) (a : α) (b : β), (List.zipWith f l m).set i (f a b) = List.zipWith f (l.set i a) (m.set i b) := by
  intro l
  induction l with
  | nil => intro m i a b; simp
  | cons x l ih => intro m i a b; cases m with
    | nil => simp
    | cons y m => cases i with
      | zero => simp
      | succ i => simp [ih]
theorem rowsL_set {vs : List Value} {T : Tab} {y : Nat} {v : Value} {xs : List Span} : (rowsL vs T).set y (spRow v xs) = rowsL (vs.set y v) (T.set y xs) := zipWith_set' _ _ _ _ _ _
theorem setK_one' {α : Type} {o : Nat} {v : Value} : ∀ {cs : List Value} (k : List Value → Option α), o < cs.length → setK o [v] cs k = k (cs.set o v) := by
  induction o with
  | zero => intro cs k h; cases cs with
    | nil => simp at h
    | cons c cs => cases cs <;> rfl
  | succ o ih => intro cs k h; cases cs with
    | nil => simp at h
    | cons c cs => simp only [setK, List.set_cons_succ]; exact ih _ (by simpa using h)
theorem setK_one {o : Nat} {v : Value} {cs : List Value} (h : o < cs.length) : setK o [v] cs some = some (cs.set o v) := setK_one' _ h
theorem setLK_at {α : Type} {x : HP} : ∀ {i : Nat} {L : List HP} (k : List HP → Option α), i < L.length → setLK x i L k = k (L.set i x) := by
  intro i
  induction i with
  | zero => intro L k h; cases L with
    | nil => simp at h
    | cons c cs => rfl
  | succ o ih => intro cs k h; cases cs with
    | nil => simp at h
    | cons c cs => simp only [setLK, List.set_cons_succ]; exact ih _ (by simpa using h)
theorem LdAt.one {w : World} {β off k : Nat} {v : Value} {cs : List Value} {e : TypeId} {fz : Nat × Nat} (hb : w.heap[β]? = some (.cells ⟨cs⟩ e fz)) (hv : cs[off]? = some v) : LdAt w β off (false, k) v := by
  show w.cell? _ = _
  simp [World.cell?, hb, hv]
theorem set_two {α : Type} {A B R : α} {l m : List α} {k : Nat} (h : k < l.length) : (A :: B :: (l ++ m)).set (2 + k) R = A :: B :: (l.set k R ++ m) := by
  rw [show 2 + k = (k + 1) + 1 by omega, List.set_cons_succ, List.set_cons_succ, List.set_append_left _ _ h]
theorem set_one {α : Type} {B R : α} {l m : List α} {k : Nat} (h : k < l.length) : (B :: (l ++ m)).set (1 + k) R = B :: (l.set k R ++ m) := by
  rw [show 1 + k = k + 1 by omega, List.set_cons_succ, List.set_append_left _ _ h]
theorem get_two {α : Type} {A B : α} {l m : List α} {k : Nat} (h : k < l.length) : (A :: B :: (l ++ m))[2 + k]? = l[k]? := by
  rw [show 2 + k = (k + 1) + 1 by omega, List.getElem?_cons_succ, List.getElem?_cons_succ, List.getElem?_append_left h]
theorem get_one {α : Type} {B : α} {l m : List α} {k : Nat} (h : k < l.length) : (B :: (l ++ m))[1 + k]? = l[k]? := by
  rw [show 1 + k = k + 1 by omega, List.getElem?_cons_succ, List.getElem?_append_left h]
/-- the rows, one made longer -/
def Tab.add (T : Tab) (W H y a b : Int) : Tab := if (0 ≤ y ∧ y ≤ H - 1) ∧ max 0 a < min b W then T.set y.toNat (T.getD y.toNat [] ++ [⟨max 0 a, min b W⟩]) else T
theorem Tab.add_len {T : Tab} {W H y a b : Int} : (T.add W H y a b).length = T.length := by unfold Tab.add; split <;> simp
end Go.J
