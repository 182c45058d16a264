/-
  Lemmas for the statements of this seat; no statement is proved here. No condition.
-/
import Derived.Tactics
import Derived.Orders
import Derived.Below
import Derived.Laws.AppendOwn
import Derived.KernelRfl
import Derived.WalkKit
import Derived.RangeFuncRecord
import Derived.OrdersIn
import Derived.TacticsIn
import Derived.LoopNIn
namespace Go.J
set_option linter.unusedSimpArgs false
set_option linter.unusedVariables false
open Go.RowKit

/-- A frame that is known in part: the newest value of a slot stands first. -/
abbrev Fr := List (Nat × Value)

def Fr.get : Fr → Nat → Option Value
  | [], _ => none
  | (u, v) :: r, t => bif Nat.beq u t then some v else Fr.get r t

def Fr.ev (fr : Fr) : Operand → Option Value
  | .tmp t => fr.get t
  | .const v => some v
  | .func f => some (.func (.func f) #[] #[])
  | .global g => some (.pointer (some ⟨g, 0, none⟩))

def Fr.evK {α : Type} (fr : Fr) : List Operand → (List Value → Option α) → Option α
  | [], k => k []
  | x :: r, k => match fr.ev x with
    | some v => fr.evK r (fun l => k (v :: l))
    | none => none

def Fr.evs (fr : Fr) (l : List Operand) : Option (List Value) := fr.evK l some

/-- a frame's size; the marks of its ranges over functions; in which round it runs -/
structure Sz where
  n : Nat
  ds : List Nat
  ro : Option Nat
def mark (D : Nat) : Deferred := { target := .collected D, args := #[] }
def Sz.marks (N : Sz) : List Deferred := N.ds.map mark
/-- the fence that fences nothing, at a round -/
def wideR (ro : Option Nat) : Fence := { fn := fun _ => True, depth := none, alive := false, round := ro }
structure Has (N : Sz) (fr : Fr) (a : Act) : Prop where
  size : a.tmps.size = N.n
  defers : a.defers = N.marks
  get : ∀ t v, fr.get t = some v → a.tmps[t]? = some v

theorem Has.eval {N : Sz} {fr : Fr} {a : Act} (h : Has N fr a) {x : Operand} {v : Value} (e : fr.ev x = some v) : a.eval x = v := by
  cases x with
  | tmp t => simp only [Fr.ev] at e; have := h.get t v e; simp [Act.eval, Array.getD_eq_getD_getElem?, this]
  | const c => simpa [Fr.ev, Act.eval] using e
  | global g => simpa [Fr.ev, Act.eval] using e
  | func f => simpa [Fr.ev, Act.eval] using e

theorem Has.evK {N : Sz} {fr : Fr} {a : Act} (h : Has N fr a) {α : Type} (l : List Operand) : ∀ (k : List Value → Option α) (r : α), fr.evK l k = some r →
    k (l.map a.eval) = some r := by
  induction l with
  | nil => intro k r e; simpa [Fr.evK] using e
  | cons x l ih =>
    intro k r e
    simp only [Fr.evK] at e
    cases hx : fr.ev x with
    | none => rw [hx] at e; cases e
    | some v =>
      rw [hx] at e
      have := ih _ _ e
      rw [List.map_cons, h.eval hx]
      exact this

theorem Has.evs {N : Sz} {fr : Fr} {a : Act} (h : Has N fr a) {l : List Operand} {vs : List Value} (e : fr.evs l = some vs) : l.map a.eval = vs := by
  have := h.evK l _ _ e
  simpa using this

theorem Has.put {N : Sz} {fr : Fr} {a : Act} (h : Has N fr a) {d : Nat} (hd : d < N.n) (v : Value) : Has N ((d, v) :: fr) (a.put (some d) v) := by
  refine ⟨by simp [Act.put, h.size], by simp [Act.put, h.defers], ?_⟩
  intro t u e
  simp only [Fr.get] at e
  by_cases ht : d = t
  · subst ht
    simp at e
    subst e
    simp [Act.put, h.size, hd]
  · have : Nat.beq d t = false := by
      cases hb : Nat.beq d t with
      | false => rfl
      | true => exact absurd (Nat.eq_of_beq_eq_true hb) ht
    rw [this] at e
    simp at e
    have := h.get t u e
    simp [Act.put, ht, this]

theorem Has.put_none {N : Sz} {fr : Fr} {a : Act} (h : Has N fr a) (v : Value) : Has N fr (a.put none v) := h

/-- all of fr' stands in fr -/
def Fr.sub (fr : Fr) : Fr → Prop
  | [] => True
  | (t, v) :: r => fr.get t = some v ∧ fr.sub r

theorem Has.sub {N : Sz} {fr : Fr} {a : Act} (h : Has N fr a) : ∀ {fr' : Fr}, fr.sub fr' → Has N fr' a
  | [], _ => ⟨h.size, h.defers, fun t v e => by simp [Fr.get] at e⟩
  | (t, v) :: r, hs => by
    refine ⟨h.size, h.defers, ?_⟩
    intro u x e
    simp only [Fr.get] at e
    by_cases ht : t = u
    · subst ht
      simp at e
      subst e
      exact h.get _ _ hs.1
    · have : Nat.beq t u = false := by
        cases hb : Nat.beq t u with
        | false => rfl
        | true => exact absurd (Nat.eq_of_beq_eq_true hb) ht
      rw [this] at e
      simp at e
      exact (Has.sub h hs.2).get u x e

/-! ## memory: what the call itself owns -/

abbrev Hp := Nat → Option Obj
abbrev HP := Hp → Prop

def Hp.disj (h g : Hp) : Prop := ∀ k, h k = none ∨ g k = none
def Hp.add (h g : Hp) : Hp := fun k => match h k with | some o => some o | none => g k

def blk (β : Nat) (o : Obj) : HP := fun h => h β = some o ∧ ∀ k, k ≠ β → h k = none
def emp : HP := fun h => ∀ k, h k = none
def star (A C : HP) : HP := fun h => ∃ x y, x.disj y ∧ h = x.add y ∧ A x ∧ C y
def starL : List HP → HP
  | [] => emp
  | A :: L => star A (starL L)

theorem Hp.disj.symm {h g : Hp} (d : h.disj g) : g.disj h := fun k => (d k).symm
theorem Hp.add_comm {h g : Hp} (d : h.disj g) : h.add g = g.add h := by
  funext k
  simp only [Hp.add]
  rcases d k with e | e <;> rw [e] <;> cases h k <;> cases g k <;> simp_all
theorem Hp.add_assoc (h g f : Hp) : (h.add g).add f = h.add (g.add f) := by
  funext k; simp only [Hp.add]; cases h k <;> simp
theorem Hp.disj_add {h g f : Hp} : h.disj (g.add f) ↔ h.disj g ∧ h.disj f := by
  constructor
  · intro d
    refine ⟨fun k => ?_, fun k => ?_⟩
    · rcases d k with e | e
      · exact .inl e
      · right; simp only [Hp.add] at e; cases hg : g k <;> simp_all
    · rcases d k with e | e
      · exact .inl e
      · right; simp only [Hp.add] at e; cases hg : g k <;> simp_all
  · rintro ⟨d1, d2⟩ k
    rcases d1 k with e | e
    · exact .inl e
    · rcases d2 k with e' | e'
      · exact .inl e'
      · right; simp [Hp.add, e, e']

theorem star_comm {A C : HP} {h : Hp} (H : star A C h) : star C A h := by
  obtain ⟨x, y, d, rfl, a, c⟩ := H
  exact ⟨y, x, d.symm, Hp.add_comm d, c, a⟩
theorem star_assoc {A C D : HP} {h : Hp} (H : star (star A C) D h) : star A (star C D) h := by
  obtain ⟨x, y, d, rfl, ⟨p, q, e, rfl, a, c⟩, dd⟩ := H
  have d' := Hp.disj_add.1 d.symm
  refine ⟨p, q.add y, Hp.disj_add.2 ⟨e, d'.1.symm⟩, Hp.add_assoc _ _ _, a, q, y, d'.2.symm, rfl, c, dd⟩
theorem star_assoc' {A C D : HP} {h : Hp} (H : star A (star C D) h) : star (star A C) D h := by
  obtain ⟨x, y, d, rfl, a, ⟨p, q, e, rfl, c, dd⟩⟩ := H
  have d' := Hp.disj_add.1 d
  exact ⟨x.add p, q, (Hp.disj_add.2 ⟨d'.2.symm, e.symm⟩).symm, (Hp.add_assoc _ _ _).symm, ⟨x, p, d'.1, rfl, a, c⟩, dd⟩
theorem star_mono {A A' C C' : HP} (ha : ∀ h, A h → A' h) (hc : ∀ h, C h → C' h) {h : Hp} (H : star A C h) : star A' C' h := by
  obtain ⟨x, y, d, rfl, a, c⟩ := H
  exact ⟨x, y, d, rfl, ha _ a, hc _ c⟩
theorem star_left_comm {A C D : HP} {h : Hp} (H : star A (star C D) h) : star C (star A D) h :=
  star_assoc (star_mono (fun _ => star_comm) (fun _ h => h) (star_assoc' H))

theorem starL_append {L M : List HP} {h : Hp} (H : star (starL L) (starL M) h) : starL (L ++ M) h := by
  induction L generalizing h with
  | nil =>
    obtain ⟨x, y, d, rfl, a, c⟩ := H
    have : x.add y = y := by funext k; simp [Hp.add, a k]
    rw [this]; exact c
  | cons A L ih =>
    have := star_assoc H
    exact star_mono (fun _ h => h) (fun _ h => ih h) this

/-- entry i taken out -/
theorem starL_focus {L : List HP} : ∀ {i : Nat} {A : HP} {h : Hp}, L[i]? = some A → starL L h → star A (starL (L.eraseIdx i)) h := by
  induction L with
  | nil => intro i A h e; simp at e
  | cons X L ih =>
    intro i A h e H
    cases i with
    | zero => simp at e; subst e; exact H
    | succ i =>
      simp at e
      have := star_mono (fun _ h => h) (fun _ h => ih e h) H
      exact star_left_comm this

theorem starL_unfocus {L : List HP} : ∀ {i : Nat} {A C : HP} {h : Hp}, L[i]? = some A → star C (starL (L.eraseIdx i)) h → starL (L.set i C) h := by
  induction L with
  | nil => intro i A C h e; simp at e
  | cons X L ih =>
    intro i A C h e H
    cases i with
    | zero => exact H
    | succ i =>
      simp at e
      have H' : star C (star X (starL (L.eraseIdx i))) h := H
      exact star_mono (fun _ h => h) (fun _ h => ih e h) (star_left_comm H')

/-- The heaplet lies in the world, from block B on. -/
def Hp.lies (h : Hp) (B : Nat) (w : World) : Prop := ∀ k o, h k = some o → B ≤ k ∧ w.heap[k]? = some o

def Own (w0 w : World) (L : List HP) : Prop := Below w0.heap.size w0 w ∧ ∃ h : Hp, h.lies w0.heap.size w ∧ starL L h

theorem Own.start (w : World) : Own w w [] := ⟨Below.refl _ _, fun _ => none, fun _ _ e => by simp at e, fun _ => rfl⟩
theorem Own.below {w0 w : World} {L : List HP} (H : Own w0 w L) : Below w0.heap.size w0 w := H.1
theorem Own.grow {w0 w w' : World} {L : List HP} (H : Own w0 w L) (hb : Below w.heap.size w w') : Own w0 w' L := by
  obtain ⟨hB, h, hl, hs⟩ := H
  refine ⟨hB.trans (hb.mono hB.size), h, fun k o e => ?_, hs⟩
  obtain ⟨h1, h2⟩ := hl k o e
  have hk : k < w.heap.size := by
    rcases Nat.lt_or_ge k w.heap.size with h | h
    · exact h
    · rw [Array.getElem?_eq_none h] at h2; cases h2
  exact ⟨h1, (hb.block k hk).trans h2⟩
theorem Own.drew {w0 w : World} {L : List HP} (H : Own w0 w L) : Own w0 w.drew L := H.grow ((Below.refl _ _).drew)
theorem Own.entail {w0 w : World} {L M : List HP} (H : Own w0 w L) (e : ∀ h, starL L h → starL M h) : Own w0 w M := by
  obtain ⟨hB, h, hl, hs⟩ := H
  exact ⟨hB, h, hl, e h hs⟩
theorem Own.join {w0 w w' : World} {L R : List HP} (H : Own w0 w L) (K : Own w w' R) : Own w0 w' (R ++ L) := by
  obtain ⟨hB0, h, hl, hs⟩ := H
  obtain ⟨hB, g, gl, gs⟩ := K
  have hsz := hB0.size
  have hlt : ∀ k o, h k = some o → k < w.heap.size := by
    intro k o e
    have h2 := (hl k o e).2
    rcases Nat.lt_or_ge k w.heap.size with h | h
    · exact h
    · rw [Array.getElem?_eq_none h] at h2; cases h2
  refine ⟨hB0.trans (hB.mono hsz), g.add h, fun k o e => ?_, starL_append ⟨g, h, fun k => ?_, rfl, gs, hs⟩⟩
  · simp only [Hp.add] at e
    cases hg : g k with
    | some x => rw [hg] at e; have := gl k x hg; cases e; exact ⟨by omega, this.2⟩
    | none => rw [hg] at e; exact ⟨(hl k o e).1, (hB.block k (hlt k o e)).trans (hl k o e).2⟩
  · cases hg : g k with
    | none => exact .inl rfl
    | some x =>
      right
      have h1 := (gl k x hg).1
      cases hh : h k with
      | none => rfl
      | some y => have := hlt k y hh; omega

theorem Own.new {w0 w : World} {L : List HP} (H : Own w0 w L) (o : Obj) : Own w0 (w.alloc o) (blk w.heap.size o :: L) := by
  have K : Own w (w.alloc o) [blk w.heap.size o] := by
    refine ⟨(Below.refl _ _).alloc (Nat.le_refl _) o, fun k => if k = w.heap.size then some o else none, fun k x e => ?_, ?_⟩
    · simp only at e
      split at e
      · rename_i hk; cases e; subst hk; exact ⟨Nat.le_refl _, by show (w.heap.push o)[w.heap.size]? = some o; simp⟩
      · cases e
    · refine ⟨fun k => if k = w.heap.size then some o else none, fun _ => none, fun k => .inr rfl, ?_, ⟨by simp, fun k hk => by simp [hk]⟩, fun _ => rfl⟩
      funext k
      simp only [Hp.add]
      by_cases hk : k = w.heap.size <;> simp [hk]
  exact H.join K

theorem Own.get {w0 w : World} {L : List HP} (H : Own w0 w L) {i β : Nat} {o : Obj} (hi : L[i]? = some (blk β o)) : w0.heap.size ≤ β ∧ w.heap[β]? = some o := by
  obtain ⟨_, h, hl, hs⟩ := H
  obtain ⟨x, y, d, rfl, a, c⟩ := starL_focus hi hs
  exact hl β o (by simp [Hp.add, a.1])

/-- one entry of ours, one block, is written anew -/
theorem Own.put {w0 w w' : World} {L : List HP} (H : Own w0 w L) {i β : Nat} {o : Obj} (hi : L[i]? = some (blk β o)) (o' : Obj)
    (hos : w'.os = w.os) (htape : w'.tape = w.tape) (hout : w'.output = w.output) (hsz : w.heap.size ≤ w'.heap.size)
    (hne : ∀ k, k ≠ β → k < w.heap.size → w'.heap[k]? = w.heap[k]?) (heq : w'.heap[β]? = some o') : Own w0 w' (L.set i (blk β o')) := by
  have hβ := (H.get hi).1
  obtain ⟨hB, h, hl, hs⟩ := H
  have hszB := hB.size
  have hlt : ∀ k o, h k = some o → k < w.heap.size := by
    intro k o e
    have h2 := (hl k o e).2
    rcases Nat.lt_or_ge k w.heap.size with h | h
    · exact h
    · rw [Array.getElem?_eq_none h] at h2; cases h2
  obtain ⟨x, y, d, rfl, a, c⟩ := starL_focus hi hs
  refine ⟨⟨by rw [hos, hB.os], by rw [htape, hB.tape], by rw [hout, hB.output], by omega, fun k hk => ?_⟩, ?_⟩
  · rw [hne k (by omega) (by omega), hB.block k hk]
  · have hyβ : y β = none := by rcases d β with e | e; (rw [a.1] at e; cases e); exact e
    refine ⟨Hp.add (fun k => if k = β then some o' else none) y, fun k z e => ?_, starL_unfocus hi ⟨_, y, fun k => ?_, rfl, ⟨by simp, fun k hk => by simp [hk]⟩, c⟩⟩
    · simp only [Hp.add] at e
      by_cases hk : k = β
      · subst hk; simp at e; subst e; exact ⟨hβ, heq⟩
      · simp [hk] at e
        have hx : x k = none := a.2 k hk
        have e' : (x.add y) k = some z := by simp [Hp.add, hx, e]
        exact ⟨(hl k z e').1, by rw [hne k hk (hlt k z e'), (hl k z e').2]⟩
    · by_cases hk : k = β
      · subst hk; exact .inr hyβ
      · left; simp [hk]

theorem Own.drop {w0 w : World} {L : List HP} (H : Own w0 w L) (i : Nat) : Own w0 w (L.eraseIdx i) := by
  obtain ⟨hB, h, hl, hs⟩ := H
  refine ⟨hB, ?_⟩
  cases hi : L[i]? with
  | none =>
    have : L.length ≤ i := by
      rcases Nat.lt_or_ge i L.length with h | h
      · rw [List.getElem?_eq_getElem h] at hi; cases hi
      · exact h
    rw [List.eraseIdx_of_length_le this]
    exact ⟨h, hl, hs⟩
  | some A =>
    obtain ⟨x, y, d, rfl, a, c⟩ := starL_focus hi hs
    refine ⟨y, fun k o e => hl k o ?_, c⟩
    simp only [Hp.add]
    rcases d k with e' | e'
    · rw [e']; exact e
    · rw [e'] at e; cases e

theorem Own.adopt {w0 w1 w : World} {L : List HP} (H : Own w0 w1 L) (hB : Below w1.heap.size w1 w) {β : Nat} {o : Obj} (hβ : w1.heap.size ≤ β) (ho : w.heap[β]? = some o) : Own w0 w (blk β o :: L) := by
  have K : Own w1 w [blk β o] := by
    refine ⟨hB, fun k => if k = β then some o else none, fun k x e => ?_, ?_⟩
    · simp only at e
      split at e
      · rename_i hk; cases e; subst hk; exact ⟨hβ, ho⟩
      · cases e
    · refine ⟨fun k => if k = β then some o else none, fun _ => none, fun k => .inr rfl, ?_, ⟨by simp, fun k hk => by simp [hk]⟩, fun _ => rfl⟩
      funext k
      simp only [Hp.add]
      by_cases hk : k = β <;> simp [hk]
  exact H.join K

theorem Own.setCell {w0 w : World} {L : List HP} (H : Own w0 w L) {i β off : Nat} {cs : Array Value} {e : TypeId} {fz : Nat × Nat} (hi : L[i]? = some (blk β (.cells cs e fz))) (v : Value) :
    Own w0 (w.setCell ⟨β, off, none⟩ v) (L.set i (blk β (.cells (cs.setIfInBounds off v) e fz))) := by
  have hg := (H.get hi).2
  refine H.put hi _ rfl rfl rfl (by simp [World.setCell]) (fun k hk _ => Below.heap_setCell _ _ _ _ hk) ?_
  simp [World.setCell, Array.getElem?_modify, hg]
end Go.J
