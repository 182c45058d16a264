/-
  Lemmas for the statements of this seat; no statement is proved here. No condition.
-/
import Derived.Tactics
import Derived.Orders
import Derived.Below
import Derived.Laws.AppendOwn
import Derived.KernelRfl
import Derived.WalkKit
import Derived.RangeFuncRecord
import Derived.OrdersIn
import Derived.TacticsIn
import Derived.LoopNIn
import Derived.LoopN
import Derived.RangeFuncLeaves
import Derived.StillTail
namespace Go.J
set_option linter.unusedSimpArgs false
set_option linter.unusedVariables false
open Go.RowKit

/-- A frame that is known in part: the newest value of a slot stands first. -/
abbrev Fr := List (Nat × Value)

def Fr.get : Fr → Nat → Option Value
  | [], _ => none
  | (u, v) :: r, t => bif Nat.beq u t then some v else Fr.get r t

def Fr.ev (fr : Fr) : Operand → Option Value
  | .tmp t => fr.get t
  | .const v => some v
  | .func f => some (.func (.func f) #[] #[])
  | .global g => some (.pointer (some ⟨g, 0, none⟩))

def Fr.evK {α : Type} (fr : Fr) : List Operand → (List Value → Option α) → Option α
  | [], k => k []
  | x :: r, k => match fr.ev x with
    | some v => fr.evK r (fun l => k (v :: l))
    | none => none

def Fr.evs (fr : Fr) (l : List Operand) : Option (List Value) := fr.evK l some

/-- a frame's size; the marks of its ranges over functions; in which round it runs -/
structure Sz where
  n : Nat
  ds : List Nat
  ro : Option Nat
def mark (D : Nat) : Deferred := { target := .collected D, args := #[] }
def Sz.marks (N : Sz) : List Deferred := N.ds.map mark
/-- the fence that fences nothing, at a round -/
def wideR (ro : Option Nat) : Fence := { fn := fun _ => True, depth := none, alive := false, round := ro }
structure Has (N : Sz) (fr : Fr) (a : Act) : Prop where
  size : a.tmps.size = N.n
  defers : a.defers = N.marks
  get : ∀ t v, fr.get t = some v → a.tmps[t]? = some v

theorem Has.eval {N : Sz} {fr : Fr} {a : Act} (h : Has N fr a) {x : Operand} {v : Value} (e : fr.ev x = some v) : a.eval x = v := by
  cases x with
  | tmp t => simp only [Fr.ev] at e; have := h.get t v e; simp [Act.eval, Array.getD_eq_getD_getElem?, this]
  | const c => simpa [Fr.ev, Act.eval] using e
  | global g => simpa [Fr.ev, Act.eval] using e
  | func f => simpa [Fr.ev, Act.eval] using e

theorem Has.evK {N : Sz} {fr : Fr} {a : Act} (h : Has N fr a) {α : Type} (l : List Operand) : ∀ (k : List Value → Option α) (r : α), fr.evK l k = some r →
    k (l.map a.eval) = some r := by
  induction l with
  | nil => intro k r e; simpa [Fr.evK] using e
  | cons x l ih =>
    intro k r e
    simp only [Fr.evK] at e
    cases hx : fr.ev x with
    | none => rw [hx] at e; cases e
    | some v =>
      rw [hx] at e
      have := ih _ _ e
      rw [List.map_cons, h.eval hx]
      exact this

theorem Has.evs {N : Sz} {fr : Fr} {a : Act} (h : Has N fr a) {l : List Operand} {vs : List Value} (e : fr.evs l = some vs) : l.map a.eval = vs := by
  have := h.evK l _ _ e
  simpa using this

theorem Has.put {N : Sz} {fr : Fr} {a : Act} (h : Has N fr a) {d : Nat} (hd : d < N.n) (v : Value) : Has N ((d, v) :: fr) (a.put (some d) v) := by
  refine ⟨by simp [Act.put, h.size], by simp [Act.put, h.defers], ?_⟩
  intro t u e
  simp only [Fr.get] at e
  by_cases ht : d = t
  · subst ht
    simp at e
    subst e
    simp [Act.put, h.size, hd]
  · have : Nat.beq d t = false := by
      cases hb : Nat.beq d t with
      | false => rfl
      | true => exact absurd (Nat.eq_of_beq_eq_true hb) ht
    rw [this] at e
    simp at e
    have := h.get t u e
    simp [Act.put, ht, this]

/-- all of fr' stands in fr -/
def Fr.sub (fr : Fr) : Fr → Prop
  | [] => True
  | (t, v) :: r => fr.get t = some v ∧ fr.sub r

theorem Has.sub {N : Sz} {fr : Fr} {a : Act} (h : Has N fr a) : ∀ {fr' : Fr}, fr.sub fr' → Has N fr' a
  | [], _ => ⟨h.size, h.defers, fun t v e => by simp [Fr.get] at e⟩
  | (t, v) :: r, hs => by
    refine ⟨h.size, h.defers, ?_⟩
    intro u x e
    simp only [Fr.get] at e
    by_cases ht : t = u
    · subst ht
      simp at e
      subst e
      exact h.get _ _ hs.1
    · have : Nat.beq t u = false := by
        cases hb : Nat.beq t u with
        | false => rfl
        | true => exact absurd (Nat.eq_of_beq_eq_true hb) ht
      rw [this] at e
      simp at e
      exact (Has.sub h hs.2).get u x e

/-! ## memory: what the call itself owns -/

abbrev Hp := Nat → Option Obj
abbrev HP := Hp → Prop

def Hp.disj (h g : Hp) : Prop := ∀ k, h k = none ∨ g k = none
def Hp.add (h g : Hp) : Hp := fun k => match h k with | some o => some o | none => g k

def blk (β : Nat) (o : Obj) : HP := fun h => h β = some o ∧ ∀ k, k ≠ β → h k = none
def emp : HP := fun h => ∀ k, h k = none
def star (A C : HP) : HP := fun h => ∃ x y, x.disj y ∧ h = x.add y ∧ A x ∧ C y
def starL : List HP → HP
  | [] => emp
  | A :: L => star A (starL L)

theorem Hp.disj.symm {h g : Hp} (d : h.disj g) : g.disj h := fun k => (d k).symm
theorem Hp.add_comm {h g : Hp} (d : h.disj g) : h.add g = g.add h := by
  funext k
  simp only [Hp.add]
  rcases d k with e | e <;> rw [e] <;> cases h k <;> cases g k <;> simp_all
theorem Hp.add_assoc (h g f : Hp) : (h.add g).add f = h.add (g.add f) := by
  funext k; simp only [Hp.add]; cases h k <;> simp
theorem Hp.disj_add {h g f : Hp} : h.disj (g.add f) ↔ h.disj g ∧ h.disj f := by
  constructor
  · intro d
    refine ⟨fun k => ?_, fun k => ?_⟩
    · rcases d k with e | e
      · exact .inl e
      · right; simp only [Hp.add] at e; cases hg : g k <;> simp_all
    · rcases d k with e | e
      · exact .inl e
      · right; simp only [Hp.add] at e; cases hg : g k <;> simp_all
  · rintro ⟨d1, d2⟩ k
    rcases d1 k with e | e
    · exact .inl e
    · rcases d2 k with e' | e'
      · exact .inl e'
      · right; simp [Hp.add, e, e']

theorem star_comm {A C : HP} {h : Hp} (H : star A C h) : star C A h := by
  obtain ⟨x, y, d, rfl, a, c⟩ := H
  exact ⟨y, x, d.symm, Hp.add_comm d, c, a⟩
theorem star_assoc {A C D : HP} {h : Hp} (H : star (star A C) D h) : star A (star C D) h := by
  obtain ⟨x, y, d, rfl, ⟨p, q, e, rfl, a, c⟩, dd⟩ := H
  have d' := Hp.disj_add.1 d.symm
  refine ⟨p, q.add y, Hp.disj_add.2 ⟨e, d'.1.symm⟩, Hp.add_assoc _ _ _, a, q, y, d'.2.symm, rfl, c, dd⟩
theorem star_assoc' {A C D : HP} {h : Hp} (H : star A (star C D) h) : star (star A C) D h := by
  obtain ⟨x, y, d, rfl, a, ⟨p, q, e, rfl, c, dd⟩⟩ := H
  have d' := Hp.disj_add.1 d
  exact ⟨x.add p, q, (Hp.disj_add.2 ⟨d'.2.symm, e.symm⟩).symm, (Hp.add_assoc _ _ _).symm, ⟨x, p, d'.1, rfl, a, c⟩, dd⟩
theorem star_mono {A A' C C' : HP} (ha : ∀ h, A h → A' h) (hc : ∀ h, C h → C' h) {h : Hp} (H : star A C h) : star A' C' h := by
  obtain ⟨x, y, d, rfl, a, c⟩ := H
  exact ⟨x, y, d, rfl, ha _ a, hc _ c⟩
theorem star_left_comm {A C D : HP} {h : Hp} (H : star A (star C D) h) : star C (star A D) h :=
  star_assoc (star_mono (fun _ => star_comm) (fun _ h => h) (star_assoc' H))

theorem starL_append {L M : List HP} {h : Hp} (H : star (starL L) (starL M) h) : starL (L ++ M) h := by
  induction L generalizing h with
  | nil =>
    obtain ⟨x, y, d, rfl, a, c⟩ := H
    have : x.add y = y := by funext k; simp [Hp.add, a k]
    rw [this]; exact c
  | cons A L ih =>
    have := star_assoc H
    exact star_mono (fun _ h => h) (fun _ h => ih h) this

/-- entry i taken out -/
theorem starL_focus {L : List HP} : ∀ {i : Nat} {A : HP} {h : Hp}, L[i]? = some A → starL L h → star A (starL (L.eraseIdx i)) h := by
  induction L with
  | nil => intro i A h e; simp at e
  | cons X L ih =>
    intro i A h e H
    cases i with
    | zero => simp at e; subst e; exact H
    | succ i =>
      simp at e
      have := star_mono (fun _ h => h) (fun _ h => ih e h) H
      exact star_left_comm this

theorem starL_unfocus {L : List HP} : ∀ {i : Nat} {A C : HP} {h : Hp}, L[i]? = some A → star C (starL (L.eraseIdx i)) h → starL (L.set i C) h := by
  induction L with
  | nil => intro i A C h e; simp at e
  | cons X L ih =>
    intro i A C h e H
    cases i with
    | zero => exact H
    | succ i =>
      simp at e
      have H' : star C (star X (starL (L.eraseIdx i))) h := H
      exact star_mono (fun _ h => h) (fun _ h => ih e h) (star_left_comm H')

/-- The heaplet lies in the world, from block B on. -/
def Hp.lies (h : Hp) (B : Nat) (w : World) : Prop := ∀ k o, h k = some o → B ≤ k ∧ w.heap[k]? = some o

def Own (w0 w : World) (L : List HP) : Prop := Below w0.heap.size w0 w ∧ ∃ h : Hp, h.lies w0.heap.size w ∧ starL L h

theorem Own.start (w : World) : Own w w [] := ⟨Below.refl _ _, fun _ => none, fun _ _ e => by simp at e, fun _ => rfl⟩
theorem Own.below {w0 w : World} {L : List HP} (H : Own w0 w L) : Below w0.heap.size w0 w := H.1
theorem Own.grow {w0 w w' : World} {L : List HP} (H : Own w0 w L) (hb : Below w.heap.size w w') : Own w0 w' L := by
  obtain ⟨hB, h, hl, hs⟩ := H
  refine ⟨hB.trans (hb.mono hB.size), h, fun k o e => ?_, hs⟩
  obtain ⟨h1, h2⟩ := hl k o e
  have hk : k < w.heap.size := by
    rcases Nat.lt_or_ge k w.heap.size with h | h
    · exact h
    · rw [Array.getElem?_eq_none h] at h2; cases h2
  exact ⟨h1, (hb.block k hk).trans h2⟩
theorem Own.drew {w0 w : World} {L : List HP} (H : Own w0 w L) : Own w0 w.drew L := H.grow ((Below.refl _ _).drew)
theorem Own.entail {w0 w : World} {L M : List HP} (H : Own w0 w L) (e : ∀ h, starL L h → starL M h) : Own w0 w M := by
  obtain ⟨hB, h, hl, hs⟩ := H
  exact ⟨hB, h, hl, e h hs⟩
theorem Own.join {w0 w w' : World} {L R : List HP} (H : Own w0 w L) (K : Own w w' R) : Own w0 w' (R ++ L) := by
  obtain ⟨hB0, h, hl, hs⟩ := H
  obtain ⟨hB, g, gl, gs⟩ := K
  have hsz := hB0.size
  have hlt : ∀ k o, h k = some o → k < w.heap.size := by
    intro k o e
    have h2 := (hl k o e).2
    rcases Nat.lt_or_ge k w.heap.size with h | h
    · exact h
    · rw [Array.getElem?_eq_none h] at h2; cases h2
  refine ⟨hB0.trans (hB.mono hsz), g.add h, fun k o e => ?_, starL_append ⟨g, h, fun k => ?_, rfl, gs, hs⟩⟩
  · simp only [Hp.add] at e
    cases hg : g k with
    | some x => rw [hg] at e; have := gl k x hg; cases e; exact ⟨by omega, this.2⟩
    | none => rw [hg] at e; exact ⟨(hl k o e).1, (hB.block k (hlt k o e)).trans (hl k o e).2⟩
  · cases hg : g k with
    | none => exact .inl rfl
    | some x =>
      right
      have h1 := (gl k x hg).1
      cases hh : h k with
      | none => rfl
      | some y => have := hlt k y hh; omega

theorem Own.new {w0 w : World} {L : List HP} (H : Own w0 w L) (o : Obj) : Own w0 (w.alloc o) (blk w.heap.size o :: L) := by
  have K : Own w (w.alloc o) [blk w.heap.size o] := by
    refine ⟨(Below.refl _ _).alloc (Nat.le_refl _) o, fun k => if k = w.heap.size then some o else none, fun k x e => ?_, ?_⟩
    · simp only at e
      split at e
      · rename_i hk; cases e; subst hk; exact ⟨Nat.le_refl _, by show (w.heap.push o)[w.heap.size]? = some o; simp⟩
      · cases e
    · refine ⟨fun k => if k = w.heap.size then some o else none, fun _ => none, fun k => .inr rfl, ?_, ⟨by simp, fun k hk => by simp [hk]⟩, fun _ => rfl⟩
      funext k
      simp only [Hp.add]
      by_cases hk : k = w.heap.size <;> simp [hk]
  exact H.join K

theorem Own.get {w0 w : World} {L : List HP} (H : Own w0 w L) {i β : Nat} {o : Obj} (hi : L[i]? = some (blk β o)) : w0.heap.size ≤ β ∧ w.heap[β]? = some o := by
  obtain ⟨_, h, hl, hs⟩ := H
  obtain ⟨x, y, d, rfl, a, c⟩ := starL_focus hi hs
  exact hl β o (by simp [Hp.add, a.1])

/-- one entry of ours, one block, is written anew -/
theorem Own.put {w0 w w' : World} {L : List HP} (H : Own w0 w L) {i β : Nat} {o : Obj} (hi : L[i]? = some (blk β o)) (o' : Obj)
    (hos : w'.os = w.os) (htape : w'.tape = w.tape) (hout : w'.output = w.output) (hsz : w.heap.size ≤ w'.heap.size)
    (hne : ∀ k, k ≠ β → k < w.heap.size → w'.heap[k]? = w.heap[k]?) (heq : w'.heap[β]? = some o') : Own w0 w' (L.set i (blk β o')) := by
  have hβ := (H.get hi).1
  obtain ⟨hB, h, hl, hs⟩ := H
  have hszB := hB.size
  have hlt : ∀ k o, h k = some o → k < w.heap.size := by
    intro k o e
    have h2 := (hl k o e).2
    rcases Nat.lt_or_ge k w.heap.size with h | h
    · exact h
    · rw [Array.getElem?_eq_none h] at h2; cases h2
  obtain ⟨x, y, d, rfl, a, c⟩ := starL_focus hi hs
  refine ⟨⟨by rw [hos, hB.os], by rw [htape, hB.tape], by rw [hout, hB.output], by omega, fun k hk => ?_⟩, ?_⟩
  · rw [hne k (by omega) (by omega), hB.block k hk]
  · have hyβ : y β = none := by rcases d β with e | e; (rw [a.1] at e; cases e); exact e
    refine ⟨Hp.add (fun k => if k = β then some o' else none) y, fun k z e => ?_, starL_unfocus hi ⟨_, y, fun k => ?_, rfl, ⟨by simp, fun k hk => by simp [hk]⟩, c⟩⟩
    · simp only [Hp.add] at e
      by_cases hk : k = β
      · subst hk; simp at e; subst e; exact ⟨hβ, heq⟩
      · simp [hk] at e
        have hx : x k = none := a.2 k hk
        have e' : (x.add y) k = some z := by simp [Hp.add, hx, e]
        exact ⟨(hl k z e').1, by rw [hne k hk (hlt k z e'), (hl k z e').2]⟩
    · by_cases hk : k = β
      · subst hk; exact .inr hyβ
      · left; simp [hk]

theorem Own.drop {w0 w : World} {L : List HP} (H : Own w0 w L) (i : Nat) : Own w0 w (L.eraseIdx i) := by
  obtain ⟨hB, h, hl, hs⟩ := H
  refine ⟨hB, ?_⟩
  cases hi : L[i]? with
  | none =>
    have : L.length ≤ i := by
      rcases Nat.lt_or_ge i L.length with h | h
      · rw [List.getElem?_eq_getElem h] at hi; cases hi
      · exact h
    rw [List.eraseIdx_of_length_le this]
    exact ⟨h, hl, hs⟩
  | some A =>
    obtain ⟨x, y, d, rfl, a, c⟩ := starL_focus hi hs
    refine ⟨y, fun k o e => hl k o ?_, c⟩
    simp only [Hp.add]
    rcases d k with e' | e'
    · rw [e']; exact e
    · rw [e'] at e; cases e

theorem Own.setCell {w0 w : World} {L : List HP} (H : Own w0 w L) {i β off : Nat} {cs : Array Value} {e : TypeId} {fz : Nat × Nat} (hi : L[i]? = some (blk β (.cells cs e fz))) (v : Value) :
    Own w0 (w.setCell ⟨β, off, none⟩ v) (L.set i (blk β (.cells (cs.setIfInBounds off v) e fz))) := by
  have hg := (H.get hi).2
  refine H.put hi _ rfl rfl rfl (by simp [World.setCell]) (fun k hk _ => Below.heap_setCell _ _ _ _ hk) ?_
  simp [World.setCell, Array.getElem?_modify, hg]
end Go.J

namespace Go.J
set_option linter.unusedSimpArgs false
set_option linter.unusedVariables false
open Go.RowKit

def w64 (n : Int) : Int := IntKind.i64.wrap n
def In64 (n : Int) : Prop := -9223372036854775808 ≤ n ∧ n ≤ 9223372036854775807
theorem w64_id {n : Int} (h : In64 n) : w64 n = n := by
  obtain ⟨h1, h2⟩ := h
  simp only [w64, IntKind.wrap, IntKind.bits, IntKind.signed]
  simp
  omega

/-- the list of operations rest, from a world w and a frame that is known as fr -/
def JL (P : Program) (N : Sz) (ops : Array Oper) (Q : Exit → Act → World → Prop) (rest : List Oper) (fr : Fr) (w : World) : Prop :=
  ∀ a, Has N fr a → wpListIn (wideR N.ro) 0 P ops Q rest a w
/-- code, likewise -/
def JC (P : Program) (N : Sz) (c : Code) (Q : Exit → Act → World → Prop) (fr : Fr) (w : World) : Prop :=
  ∀ a, Has N fr a → c.wpIn (wideR N.ro) 0 P Q a w

/-- a way out of code -/
def Ex (N : Sz) (Q : Exit → Act → World → Prop) (e : Exit) (fr : Fr) (w : World) : Prop := ∀ a, Has N fr a → Q e a w

def binI (op : BinOp) (x y : Int) : Option Value :=
  match op with
  | .add => some (.int .i64 (w64 (x + y)))
  | .sub => some (.int .i64 (w64 (x - y)))
  | .mul => some (.int .i64 (w64 (x * y)))
  | .eql => some (.bool (decide (x = y)))
  | .neq => some (.bool (decide (x ≠ y)))
  | .lss => some (.bool (decide (x < y)))
  | .leq => some (.bool (decide (x ≤ y)))
  | .gtr => some (.bool (decide (y < x)))
  | .geq => some (.bool (decide (y ≤ x)))
  | _ => none

def bltOp (b : Builtin) (l : Option (List Value)) : Option Value :=
  match b with
  | .min => match l with
    | some [.int .i64 x, .int .i64 y] => some (.int .i64 (min x y))
    | some [.int .i64 x, .int .i64 y, .int .i64 z] => some (.int .i64 (min (min x y) z))
    | _ => none
  | .max => match l with
    | some [.int .i64 x, .int .i64 y] => some (.int .i64 (max x y))
    | some [.int .i64 x, .int .i64 y, .int .i64 z] => some (.int .i64 (max (max x y) z))
    | _ => none
  | _ => none

def pureOp (fr : Fr) (op : Op) : Option Value :=
  match op with
  | .move x | .assign x => fr.ev x
  | .pick c x y => match fr.ev c with
    | some (.bool true) => fr.ev x
    | some (.bool false) => fr.ev y
    | _ => none
  | .binOp op _ x y _ => match fr.ev x, fr.ev y with
    | some (.int .i64 a), some (.int .i64 b) => binI op a b
    | _, _ => none
  | .unOp .neg _ x => match fr.ev x with
    | some (.int .i64 a) => some (.int .i64 (w64 (-a)))
    | _ => none
  | .unOp .not _ x => match fr.ev x with
    | some (.bool b) => some (.bool !b)
    | _ => none
  | .makeFunc fn first captured => fr.evK first.toList fun f => fr.evK captured.toList fun c => some (.func fn ⟨f⟩ ⟨c⟩)
  | .extract x i => match fr.ev x with
    | some (.tuple vs) => vs.toList[i]?
    | _ => none
  | .call c => match c.callee with
    | .builtin b => bltOp b (fr.evs c.args.toList)
    | _ => none
  | _ => none

theorem binI_run {P : Program} {w : World} {op : BinOp} {t : TypeId} {x y : Operand} {a b : Int} {v : Value} (h : binI op a b = some v) :
    (do eqGuard op t x y (.int .i64 a) (.int .i64 b); binOp op t (.int .i64 a) (.int .i64 b) : Sem Value).run P w = .ok v w := by
  cases op <;> simp [binI] at h <;> subst h <;> simp [eqGuard, binOp, Op.intArith, Op.intCmp, w64, bind, Sem.bind, pure] <;>
    first | rfl | (simp [Bool.eq_iff_iff, bne_iff_ne]) | skip

theorem pureOp_run {P : Program} {N : Sz} {w : World} {fr : Fr} {a : Act} (H : Has N fr a) {op : Op} {v : Value} (h : pureOp fr op = some v)
    (d : Option Tmp) (ty : TypeId) (pos : String) (af : Array Edge) (g : Option (Nat × Bool)) :
    (execOp a.eval ⟨d, op, ty, pos, af, g⟩).run P w = .ok (.value v) w := by
  unfold pureOp at h
  split at h
  · rename_i x; simp only [execOp, H.eval h]; rfl
  · rename_i x; simp only [execOp, H.eval h]; rfl
  · rename_i c x y
    split at h
    · rename_i hc; simp only [execOp, H.eval h, H.eval hc]; rfl
    · rename_i hc; simp only [execOp, H.eval h, H.eval hc]; rfl
    · cases h
  · rename_i op t x y yt
    split at h
    · rename_i a' b' hx hy
      simp only [execOp, H.eval hx, H.eval hy]
      have := binI_run (P := P) (w := w) (t := t) (x := x) (y := y) h
      show Sem.run P (Bind.bind (do eqGuard op t x y (.int .i64 a') (.int .i64 b'); binOp op t (.int .i64 a') (.int .i64 b') : Sem Value) (fun v => pure (Next.value v))) w = _
      rw [Sem.run_bind, this]
      rfl
    · cases h
  · rename_i t x
    split at h
    · rename_i b hx; simp at h; subst h; simp only [execOp, H.eval hx]; simp [Op.unary, Op.intArith, w64]
    · cases h
  · rename_i t x
    split at h
    · rename_i b hx; simp at h; subst h; simp only [execOp, H.eval hx]; simp [Op.unary]
    · cases h
  · rename_i fn first captured
    have h1 := H.evK _ _ _ h
    have h2 := H.evK _ _ _ h1
    simp at h2
    subst h2
    simp only [execOp]
    simp only [Instr.makeFunc]
    rw [← Array.toList_map, ← Array.toList_map]
    rfl
  · rename_i x i
    split at h
    · rename_i vs hx
      simp only [execOp, H.eval hx]
      simp [Instr.extract]
      simp at h
      rw [h]
      rfl
    · cases h
  · rename_i c
    split at h
    · rename_i b hb
      obtain ⟨callee, args, tys⟩ := c
      simp only at hb h
      subst hb
      have key : ∀ l, fr.evs args.toList = some l → args.toList.map a.eval = l := fun l e => H.evs e
      simp only [execOp, resolve]
      unfold bltOp at h
      split at h
      · split at h
        · rename_i x y he
          have hk := key _ he
          simp at h; subst h
          simp [invoke, builtin, Builtin.min_, hk, Builtin.min2]
          split <;> omega
        · rename_i x y z he
          have hk := key _ he
          simp at h; subst h
          simp [invoke, builtin, Builtin.min_, hk, Builtin.min2]
          split <;> split <;> omega
        · cases h
      · split at h
        · rename_i x y he
          have hk := key _ he
          simp at h; subst h
          simp [invoke, builtin, Builtin.max_, hk, Builtin.max2]
          split <;> omega
        · rename_i x y z he
          have hk := key _ he
          simp at h; subst h
          simp [invoke, builtin, Builtin.max_, hk, Builtin.max2]
          split <;> split <;> omega
        · cases h
      · cases h
    · cases h
  · cases h

/-! ## rules for lists of operations -/

def Fr.put (d : Option Tmp) (v : Value) (fr : Fr) : Fr :=
  match d with
  | some d => (d, v) :: fr
  | none => fr

def Fr.fits (N : Sz) (d : Option Tmp) : Bool :=
  match d with
  | some d => Nat.ble (d + 1) N.n
  | none => true

theorem Has.putO {N : Sz} {fr : Fr} {a : Act} (h : Has N fr a) {d : Option Tmp} (hd : Fr.fits N d = true) (v : Value) : Has N (fr.put d v) (a.put d v) := by
  cases d with
  | none => exact h
  | some d => exact h.put (Nat.le_of_ble_eq_true hd) v

/-- an operation that is no defer statement runs in a round as anywhere -/
theorem semAt_run {P : Program} {o : Oper} {ρ : Operand → Value} {w w' : World} {x : Next} (h : (execOp ρ o).run P w = .ok x w') (hx : ∀ d, x ≠ .defer d) (ro : Option Nat) : (Oper.semAt ro ρ o).run P w = .ok x w' := by
  by_cases hc : ∃ c, o.op = .defer c
  · exfalso
    obtain ⟨c, hc⟩ := hc
    unfold execOp at h
    rw [hc] at h
    simp only at h
    rw [Sem.run_bind] at h
    cases hr : (resolve ρ c o.type).run P w with
    | ok d w1 =>
      rw [hr] at h
      have h' : Result.ok (Next.defer d) w1 = Result.ok x w' := h
      cases h'
      exact hx d rfl
    | halt => rw [hr] at h; cases h
  · rw [Oper.semAt_eq ro ρ o (fun c hcc => hc ⟨c, hcc⟩)]
    exact h

section
variable {P : Program} {N : Sz} {ops : Array Oper} {Q : Exit → Act → World → Prop} {rest : List Oper} {fr : Fr} {w : World}

theorem JL.val {o : Oper} {v : Value} {w' : World} (hg : o.guard = none) (hd : Fr.fits N o.dst = true)
    (hr : ∀ a, Has N fr a → (execOp a.eval o).run P w = .ok (.value v) w')
    (k : JL P N ops Q rest (fr.put o.dst v) w') : JL P N ops Q (o :: rest) fr w := by
  intro a H
  refine wpListIn_plain hg fun K hK => ⟨fun _ _ => trivial, ?_⟩
  show o.uponIn (wideR N.ro) 0 P a K Q ((Oper.semAt N.ro a.eval o).run P w)
  rw [semAt_run (hr a H) (by simp)]
  exact hK _ _ (k _ (H.putO hd v))

theorem JL.unit {o : Oper} {w' : World} (hg : o.guard = none) (hd : o.dst = none)
    (hr : ∀ a, Has N fr a → (execOp a.eval o).run P w = .ok .skip w') (k : JL P N ops Q rest fr w') : JL P N ops Q (o :: rest) fr w := by
  intro a H
  refine wpListIn_plain hg fun K hK => ⟨fun _ _ => trivial, ?_⟩
  show o.uponIn (wideR N.ro) 0 P a K Q ((Oper.semAt N.ro a.eval o).run P w)
  rw [semAt_run (hr a H) (by simp)]
  refine hK _ _ (k _ ?_)
  rw [hd]; exact H

theorem JL.pure {d : Option Tmp} {op : Op} {ty : TypeId} {pos : String} {af : Array Edge} {v : Value} (hv : pureOp fr op = some v) (hd : Fr.fits N d = true)
    (k : JL P N ops Q rest (fr.put d v) w) : JL P N ops Q (⟨d, op, ty, pos, af, none⟩ :: rest) fr w :=
  JL.val rfl hd (fun a H => pureOp_run H hv _ _ _ _ _) k

theorem JL.nil (k : Ex N Q .normal fr w) : JL P N ops Q [] fr w := fun a H => k a H

theorem JL.sub {fr' : Fr} (hs : fr.sub fr') (k : JL P N ops Q rest fr' w) : JL P N ops Q rest fr w := fun _ H => k _ (H.sub hs)

/-- a guarded operation that is carried out -/
theorem JL.want {d : Option Tmp} {op : Op} {ty : TypeId} {pos : String} {af : Array Edge} {j : Nat} {b : Bool} {t : Tmp}
    (hj : (ops[j]?).bind (·.dst) = some t) (hv : fr.get t = some (.bool b))
    (k : JL P N ops Q (⟨d, op, ty, pos, af, none⟩ :: rest) fr w) : JL P N ops Q (⟨d, op, ty, pos, af, some (j, b)⟩ :: rest) fr w := by
  intro a H
  have hk := k a H
  unfold wpListIn at hk ⊢
  have h1 : yielded ops a.tmps j = some b := by simp [yielded, hj, H.get t _ hv]
  rw [if_pos (by simp [Region.wanted, h1])]
  rw [if_pos (by simp [Region.wanted])] at hk
  exact hk

/-- a guarded operation that is passed over -/
theorem JL.pass {d : Option Tmp} {op : Op} {ty : TypeId} {pos : String} {af : Array Edge} {j : Nat} {b c : Bool} {t : Tmp}
    (hj : (ops[j]?).bind (·.dst) = some t) (hv : fr.get t = some (.bool c)) (hne : (c == b) = false) (hd : Fr.fits N d = true)
    (k : JL P N ops Q rest (fr.put d undef) w) : JL P N ops Q (⟨d, op, ty, pos, af, some (j, b)⟩ :: rest) fr w := by
  intro a H
  unfold wpListIn
  have h1 : yielded ops a.tmps j = some c := by simp [yielded, hj, H.get t _ hv]
  rw [if_neg]
  · exact ⟨fun _ _ => trivial, k _ (H.putO hd _)⟩
  · simp only [Region.wanted, h1]
    cases b <;> cases c <;> simp_all

theorem Has.again {a : Act} {t : Nat} {v : Value} (H : Has N fr a) (hv : fr.get t = some v) : Has N ((t, v) :: fr) a := by
  refine ⟨H.size, H.defers, fun u x e => ?_⟩
  simp only [Fr.get] at e
  by_cases ht : t = u
  · subst ht; simp at e; subst e; exact H.get _ _ hv
  · have : Nat.beq t u = false := by
      cases hb : Nat.beq t u with
      | false => rfl
      | true => exact absurd (Nat.eq_of_beq_eq_true hb) ht
    rw [this] at e
    exact H.get u x (by simpa using e)

/-- .. whose guard was passed over itself -/
theorem JL.passU {d : Option Tmp} {op : Op} {ty : TypeId} {pos : String} {af : Array Edge} {j : Nat} {b : Bool} {t : Tmp}
    (hj : (ops[j]?).bind (·.dst) = some t) (hv : fr.get t = some undef) (hd : Fr.fits N d = true)
    (k : JL P N ops Q rest (fr.put d undef) w) : JL P N ops Q (⟨d, op, ty, pos, af, some (j, b)⟩ :: rest) fr w := by
  intro a H
  unfold wpListIn
  have h1 : yielded ops a.tmps j = none := by simp [yielded, hj, H.get t _ hv, undef]
  rw [if_neg]
  · exact ⟨fun _ _ => trivial, k _ (H.putO hd _)⟩
  · simp [Region.wanted, h1]

/-- a Bool of the frame, decided both ways -/
theorem JL.cases (t : Tmp) {b : Bool} (hv : fr.get t = some (.bool b)) (ht : b = true → JL P N ops Q rest ((t, .bool true) :: fr) w)
    (hf : b = false → JL P N ops Q rest ((t, .bool false) :: fr) w) : JL P N ops Q rest fr w := by
  intro a H
  have hh := H.again hv
  cases b with
  | true => exact ht rfl a hh
  | false => exact hf rfl a hh

/-- a slot's value in another spelling -/
theorem JL.re (t : Tmp) {v v' : Value} (hv : fr.get t = some v) (e : v = v') (k : JL P N ops Q rest ((t, v') :: fr) w) : JL P N ops Q rest fr w := by
  subst e
  exact fun a H => k a (H.again hv)

/-! ### types, loads, stores -/
end

/-- is a type a struct or an array; how many cells -/
def tySh (P : Program) (t : TypeId) : Option (Bool × Nat) :=
  match P.underlying t, P.info? t with
  | some d, some i => some (match d with | .struct _ | .array _ _ => true | _ => false, i.size)
  | _, _ => none

theorem tySh_agg {P : Program} {t : TypeId} {b : Bool} {n : Nat} (h : tySh P t = some (b, n)) (w : World) : (isAgg t).run P w = .ok b w ∧ (sizeOf t).run P w = .ok n w := by
  unfold tySh at h
  split at h
  · rename_i d i hd hi
    simp at h
    obtain ⟨h1, h2⟩ := h
    constructor
    · simp only [isAgg]
      rw [Sem.run_bind, run_underlying hd]
      simp only [Result.andThen]
      cases d <;> simp at h1 <;> subst h1 <;> rfl
    · simp [sizeOf, typeInfo, hi, h2]
  · cases h

def takeK {α : Type} : Nat → List Value → (List Value → Option α) → Option α
  | 0, _, k => k []
  | n + 1, x :: xs, k => takeK n xs fun l => k (x :: l)
  | _ + 1, [], _ => none

theorem takeK_eq {α : Type} {n : Nat} : ∀ {l : List Value} {k : List Value → Option α} {r : α}, takeK n l k = some r → k (l.take n) = some r ∧ n ≤ l.length := by
  induction n with
  | zero => intro l k r h; simpa [takeK] using h
  | succ n ih =>
    intro l k r h
    cases l with
    | nil => simp [takeK] at h
    | cons x xs => simp only [takeK] at h; have := ih h; simpa using this

def loadOf (cs : List Value) (off : Nat) (sh : Bool × Nat) : Option Value :=
  match sh with
  | (true, n) => takeK n (cs.drop off) fun l => some (.agg ⟨l⟩)
  | (false, _) => match cs.drop off with
    | x :: _ => some x
    | [] => none

/-- what stands in memory at a place, at a type of that shape -/
def LdAt (w : World) (β off : Nat) (sh : Bool × Nat) (v : Value) : Prop :=
  match sh with
  | (true, n) => ∃ l, v = .agg ⟨l⟩ ∧ l.length = n ∧ ∀ j u, l[j]? = some u → w.cell? ⟨β, off + j, none⟩ = some u
  | (false, _) => w.cell? ⟨β, off, none⟩ = some v

theorem LdAt.of_block {w : World} {β off : Nat} {sh : Bool × Nat} {v : Value} {cs : Array Value} {e : TypeId} {fz : Nat × Nat} (hb : w.heap[β]? = some (.cells cs e fz))
    (hl : loadOf cs.toList off sh = some v) : LdAt w β off sh v := by
  obtain ⟨b, n⟩ := sh
  cases b with
  | true =>
    obtain ⟨h1, h2⟩ := takeK_eq hl
    simp at h1
    subst h1
    refine ⟨_, rfl, by simp at h2 ⊢; omega, fun j u hj => ?_⟩
    rw [List.getElem?_take] at hj
    split at hj
    · simp at hj
      simpa [World.cell?, hb] using hj
    · cases hj
  | false =>
    simp only [loadOf] at hl
    split at hl
    · rename_i x xs he
      cases hl
      have : cs.toList[off]? = some v := by
        have := congrArg (·[0]?) he
        simpa using this
      simpa [LdAt, World.cell?, hb] using this
    · cases hl

theorem run_loadCellsFrom {P : Program} {w : World} {a : Addr} (n : Nat) : ∀ (i : Nat) (l : List Value) (acc : Array Value), l.length = n →
    (∀ j u, l[j]? = some u → w.cell? (a.add (i + j)) = some u) → (loadCellsFrom a i n acc).run P w = .ok ⟨acc.toList ++ l⟩ w := by
  induction n with
  | zero =>
    intro i l acc hl _
    have h0 : l = [] := by simpa using hl
    subst h0
    simp [loadCellsFrom]
  | succ n ih =>
    intro i l acc hl hc
    cases l with
    | nil => simp at hl
    | cons x xs =>
      have h0 : w.cell? (a.add i) = some x := by have := hc 0 x (by simp); simpa using this
      have := ih (i + 1) xs (acc.push x) (by simpa using hl) (fun j u hj => by have := hc (j + 1) u (by simpa using hj); rwa [show i + 1 + j = i + (j + 1) by omega])
      simp only [loadCellsFrom]
      rw [Sem.run_bind]
      have h1 : (load (a.add i)).run P w = .ok x w := by simp [load, Sem.run, h0]
      rw [h1]
      simp only [Result.andThen]
      rw [this]
      simp

theorem run_loadVar {P : Program} {w : World} {t : TypeId} {sh : Bool × Nat} {β off : Nat} {v : Value} (hs : tySh P t = some sh) (hl : LdAt w β off sh v) :
    (loadVar t ⟨β, off, none⟩).run P w = .ok v w := by
  obtain ⟨b, n⟩ := sh
  obtain ⟨h1, h2⟩ := tySh_agg hs w
  unfold loadVar
  rw [Sem.run_bind, h1]
  simp only [Result.andThen]
  cases b with
  | true =>
    obtain ⟨l, rfl, hn, hc⟩ := hl
    simp only [if_true]
    have := run_loadCellsFrom (P := P) (w := w) (a := ⟨β, off, none⟩) n 0 l #[] hn (fun j u hj => by
      have := hc j u hj
      simp only [Addr.add]
      split
      · rename_i h0; have : j = 0 := by omega
        subst this; simpa using hc 0 u hj
      · simpa using this)
    simp [loadCells, h2, Sem.run_bind, Result.andThen, this]
  | false =>
    have hl' : w.cell? ⟨β, off, none⟩ = some v := hl
    simp [load, Sem.run, hl']

/-! ### stores -/

/-- some cells of a row written anew -/
def setK {α : Type} : Nat → List Value → List Value → (List Value → Option α) → Option α
  | 0, [], cs, k => k cs
  | 0, v :: vs, _ :: cs, k => setK 0 vs cs fun l => k (v :: l)
  | o + 1, vs, x :: cs, k => setK o vs cs fun l => k (x :: l)
  | _, _ :: _, [], _ => none
  | _ + 1, [], [], _ => none

def oneV : Value → Bool
  | .agg _ | .tuple _ => false
  | _ => true

def allOne : List Value → Bool
  | [] => true
  | v :: r => oneV v && allOne r

theorem setK_eq {α : Type} : ∀ {o : Nat} {vs cs : List Value} {k : List Value → Option α} {r : α}, setK o vs cs k = some r →
    ∃ l, k l = some r ∧ l.length = cs.length ∧ o + vs.length ≤ cs.length ∧ ∀ j : Nat, l[j]? = if o ≤ j ∧ j < o + vs.length then vs[j - o]? else cs[j]? := by
  intro o
  induction o with
  | zero =>
    intro vs
    induction vs with
    | nil => intro cs k r h; exact ⟨cs, by simpa [setK] using h, rfl, by simp, fun j => by simp⟩
    | cons v vs ih =>
      intro cs k r h
      cases cs with
      | nil => simp [setK] at h
      | cons x xs =>
        simp only [setK] at h
        obtain ⟨l, h1, h2, h3, h4⟩ := ih h
        refine ⟨_, h1, by simp [h2], by simp at h3 ⊢; omega, fun j => ?_⟩
        cases j with
        | zero => simp
        | succ j => have := h4 j; simp at this ⊢; rw [this]
  | succ o ih =>
    intro vs cs k r h
    cases cs with
    | nil => cases vs <;> simp [setK] at h
    | cons x xs =>
      have h' : setK o vs xs (fun l => k (x :: l)) = some r := by cases vs <;> simpa [setK] using h
      obtain ⟨l, h1, h2, h3, h4⟩ := ih h'
      refine ⟨_, h1, by simp [h2], by simp at h3 ⊢; omega, fun j => ?_⟩
      cases j with
      | zero => simp
      | succ j =>
        have := h4 j
        simp only [List.getElem?_cons_succ]
        rw [this]
        by_cases hc : o ≤ j ∧ j < o + vs.length
        · rw [if_pos hc, if_pos (by omega)]; congr 1; omega
        · rw [if_neg hc, if_neg (by omega)]

theorem run_storeCells {P : Program} {e : TypeId} (vs : List Value) : ∀ (off i β : Nat) (w : World) (cs : Array Value), w.heap[β]? = some (.cells cs e (0, 0)) →
    allOne vs = true → off + i + vs.length ≤ cs.size →
    ∃ w' cs', (storeCells ⟨β, off, none⟩ vs i).run P w = .ok () w' ∧ w'.heap[β]? = some (.cells cs' e (0, 0)) ∧ cs'.size = cs.size ∧
      (∀ j : Nat, cs'[j]? = if off + i ≤ j ∧ j < off + i + vs.length then vs[j - (off + i)]? else cs[j]?) ∧ w'.os = w.os ∧ w'.tape = w.tape ∧ w'.output = w.output ∧
      w'.heap.size = w.heap.size ∧ ∀ k, k ≠ β → w'.heap[k]? = w.heap[k]? := by
  induction vs with
  | nil => intro off i β w cs hb _ _; exact ⟨w, cs, by simp [storeCells], hb, rfl, fun j => by rw [if_neg (by simp)], rfl, rfl, rfl, rfl, fun _ _ => rfl⟩
  | cons v vs ih =>
    intro off i β w cs hb ho hle
    simp only [List.length_cons] at hle
    have hone : oneV v = true ∧ allOne vs = true := by simpa [allOne] using ho
    have hadd : (⟨β, off, none⟩ : Addr).add i = ⟨β, off + i, none⟩ := by
      simp only [Addr.add]; split
      · rename_i h; subst h; rfl
      · rfl
    have hlt : off + i < cs.size := by omega
    have hcell : w.cell? ⟨β, off + i, none⟩ = some cs[off + i] := by simp [World.cell?, hb, hlt]
    have hfz : w.frozen? ⟨β, off + i, none⟩ = false := by simp [World.frozen?, hb]
    have hstore : (store ((⟨β, off, none⟩ : Addr).add i) v).run P w = .ok () (w.setCell ⟨β, off + i, none⟩ v) := by
      rw [hadd]
      have h1 := hone.1
      cases v <;> simp [oneV] at h1 <;> simp [store, Sem.run, hcell, hfz]
    have hb' : (w.setCell ⟨β, off + i, none⟩ v).heap[β]? = some (.cells (cs.setIfInBounds (off + i) v) e (0, 0)) := by simp [World.setCell, Array.getElem?_modify, hb]
    obtain ⟨w', cs', h1, h2, h3, h4, h5, h6, h7, h8, h9⟩ := ih off (i + 1) β _ _ hb' hone.2 (by simp; omega)
    refine ⟨w', cs', ?_, h2, by simpa using h3, fun j => ?_, h5, h6, h7, by simpa [World.setCell] using h8, fun k hk => ?_⟩
    · simp only [storeCells]
      rw [Sem.run_bind, hstore]
      exact h1
    · rw [h4 j]
      by_cases hc : off + (i + 1) ≤ j ∧ j < off + (i + 1) + vs.length
      · rw [if_pos hc, if_pos (by simp; omega)]
        rw [show j - (off + i) = (j - (off + (i + 1))) + 1 by omega]
        simp
      · rw [if_neg hc]
        by_cases hj : j = off + i
        · subst hj; rw [if_pos (by simp)]; simp [hlt]
        · rw [if_neg (by simp; omega)]; simp [show ¬ off + i = j by omega]
    · rw [h9 k hk]; exact Below.heap_setCell _ _ _ _ hk
end Go.J

namespace Go.J
set_option linter.unusedSimpArgs false
set_option linter.unusedVariables false
open Go.RowKit

def cellsL : Value → List Value
  | .agg ⟨l⟩ => l
  | v => [v]
def cellsO : Value → Option (List Value)
  | .agg ⟨l⟩ => some l
  | v => some [v]
theorem cellsO_eq {v : Value} {l : List Value} (h : cellsO v = some l) : v.cells = ⟨l⟩ := by
  cases v with
  | agg cs => simp [cellsO] at h; subst h; rfl
  | _ => simp [cellsO] at h; subst h; rfl
theorem cells_cellsL (v : Value) : v.cells = ⟨cellsL v⟩ := by cases v <;> rfl

def setLK {α : Type} (x : HP) : Nat → List HP → (List HP → Option α) → Option α
  | 0, _ :: r, k => k (x :: r)
  | i + 1, y :: r, k => setLK x i r fun l => k (y :: l)
  | _, [], _ => none
theorem setLK_eq {α : Type} {x : HP} : ∀ {i : Nat} {L : List HP} {k : List HP → Option α} {r : α}, setLK x i L k = some r → k (L.set i x) = some r := by
  intro i
  induction i with
  | zero => intro L k r h; cases L <;> simp_all [setLK]
  | succ i ih => intro L k r h; cases L with
    | nil => simp [setLK] at h
    | cons y L => simp only [setLK] at h; simpa using ih h

def fOff (fs : Array Field) (i : Nat) : Option (Nat × TypeId) :=
  match fs.toList[i]? with
  | some ⟨_, t, o, _, _, _, _⟩ => some (o, t)
  | none => none

def tyZero (P : Program) (t : TypeId) : Option (List Value) :=
  match P.info? t with
  | some i => match i.zero with
    | some z => cellsO z
    | none => none
  | none => none

theorem tyZero_run {P : Program} {t : TypeId} {l : List Value} (h : tyZero P t = some l) (w : World) : ∃ z, (zeroValue t).run P w = .ok z w ∧ z.cells = ⟨l⟩ := by
  unfold tyZero at h
  split at h
  · rename_i i hi
    split at h
    · rename_i z hz
      exact ⟨z, by simp [zeroValue, typeInfo, hi, hz], cellsO_eq h⟩
    · cases h
  · cases h

section
variable {P : Program} {N : Sz} {ops : Array Oper} {Q : Exit → Act → World → Prop} {rest : List Oper} {fr : Fr} {w w0 : World} {L : List HP}
  {d : Option Tmp} {ty : TypeId} {pos : String} {af : Array Edge}

theorem JL.load {x : Operand} {t : TypeId} {β off : Nat} {sh : Bool × Nat} {v : Value} (hx : fr.ev x = some (.pointer (some ⟨β, off, none⟩))) (hs : tySh P t = some sh)
    (hl : LdAt w β off sh v) (hd : Fr.fits N d = true) (k : JL P N ops Q rest (fr.put d v) w) : JL P N ops Q (⟨d, .load t x, ty, pos, af, none⟩ :: rest) fr w :=
  JL.val rfl hd (fun a H => by
    simp only [execOp, H.eval hx]
    simp [Instr.loadAt, Instr.sureAddr, run_loadVar hs hl]) k

theorem JL.loadB {x : Operand} {t : TypeId} {β off : Nat} {sh : Bool × Nat} {v : Value} {cs : Array Value} {e : TypeId} {fz : Nat × Nat} (i : Nat) (H : Own w0 w L)
    (hx : fr.ev x = some (.pointer (some ⟨β, off, none⟩))) (hs : tySh P t = some sh) (hi : L[i]? = some (blk β (.cells cs e fz)))
    (hl : loadOf cs.toList off sh = some v) (hd : Fr.fits N d = true) (k : JL P N ops Q rest (fr.put d v) w) : JL P N ops Q (⟨d, .load t x, ty, pos, af, none⟩ :: rest) fr w :=
  JL.load hx hs (LdAt.of_block (H.get hi).2 hl) hd k

theorem JL.box {x : Operand} {t : TypeId} {v : Value} {cs : List Value} (H : Own w0 w L) (hx : fr.ev x = some v) (hc : cellsO v = some cs) (hd : Fr.fits N d = true)
    (k : ∀ β w', Own w0 w' (blk β (.cells ⟨cs⟩ t (0, 0)) :: L) → JL P N ops Q rest (fr.put d (.pointer (some ⟨β, 0, none⟩))) w') :
    JL P N ops Q (⟨d, .box t x, ty, pos, af, none⟩ :: rest) fr w :=
  JL.val rfl hd (fun a H => by
    simp only [execOp, H.eval hx]
    simp [Instr.box, newVar, newRow, cellsO_eq hc, newObj, Sem.run]) (k w.heap.size (w.alloc (.cells ⟨cs⟩ t (0, 0))) (H.new _))

theorem JL.alloc {t : TypeId} {cs : List Value} (H : Own w0 w L) (hz : tyZero P t = some cs) (hd : Fr.fits N d = true)
    (k : ∀ β w', Own w0 w' (blk β (.cells ⟨cs⟩ t (0, 0)) :: L) → JL P N ops Q rest (fr.put d (.pointer (some ⟨β, 0, none⟩))) w') :
    JL P N ops Q (⟨d, .alloc t, ty, pos, af, none⟩ :: rest) fr w := by
  obtain ⟨z, h1, h2⟩ := tyZero_run hz w
  refine JL.val rfl hd (fun a H => ?_) (k w.heap.size (w.alloc (.cells ⟨cs⟩ t (0, 0))) (H.new _))
  simp only [execOp]
  simp [Instr.alloc, h1, newVar, newRow, newObj, Sem.run, h2]

theorem JL.storeB {x y : Operand} {t : TypeId} {β off n : Nat} {b : Bool} {v : Value} {cs : List Value} {cs' : List Value} {e : TypeId} {L' : List HP} (i : Nat) (H : Own w0 w L)
    (hx : fr.ev x = some (.pointer (some ⟨β, off, none⟩))) (hy : fr.ev y = some v) (hs : tySh P t = some (b, n)) (hi : L[i]? = some (blk β (.cells ⟨cs⟩ e (0, 0))))
    (hn : (cellsL v).length = n) (h1 : allOne (cellsL v) = true) (hset : setK off (cellsL v) cs some = some cs') (hL : setLK (blk β (.cells ⟨cs'⟩ e (0, 0))) i L some = some L')
    (k : ∀ w', Own w0 w' L' → JL P N ops Q rest fr w') : JL P N ops Q (⟨none, .store t x y, ty, pos, af, none⟩ :: rest) fr w := by
  obtain ⟨l, e1, e2, e3, e4⟩ := setK_eq hset
  simp at e1
  subst e1
  have hb := (H.get hi).2
  obtain ⟨w', cs'', g1, g2, g3, g4, g5, g6, g7, g8, g9⟩ := run_storeCells (P := P) (cellsL v) off 0 β w ⟨cs⟩ hb h1 (by simpa using e3)
  have hcs : cs'' = ⟨l⟩ := by
    apply Array.ext'
    apply List.ext_getElem?
    intro j
    have := g4 j
    simp at this
    simp only [List.getElem?_toArray] at *
    rw [e4 j]
    simpa using this
  subst hcs
  have hL' := setLK_eq hL
  simp at hL'
  subst hL'
  refine JL.unit rfl rfl (fun a Ha => ?_) (k w' (H.put hi _ g5 g6 g7 (by omega) (fun k hk _ => g9 k hk) g2))
  simp only [execOp, Ha.eval hx, Ha.eval hy]
  simp [Instr.storeAt, Instr.sureAddr, storeVar, (tySh_agg hs w).2, cells_cellsL v, hn, g1]

theorem JL.fieldAddr {x : Operand} {t u : TypeId} {f β off o n : Nat} {b : Bool} {fs : Array Field} (hx : fr.ev x = some (.pointer (some ⟨β, off, none⟩))) (hu : P.underlying t = some (.struct fs))
    (hf : fOff fs f = some (o, u)) (hs : tySh P u = some (b, n + 1)) (hd : Fr.fits N d = true)
    (k : JL P N ops Q rest (fr.put d (.pointer (some ⟨β, off + o, none⟩))) w) : JL P N ops Q (⟨d, .fieldAddr t x f, ty, pos, af, none⟩ :: rest) fr w :=
  JL.val rfl hd (fun a H => by
    simp only [execOp, H.eval hx]
    unfold fOff at hf
    split at hf
    · rename_i g1 g2 g3 g4 g5 g6 g7 hg
      cases hf
      have hg' : fs[f]? = some ⟨g1, u, o, g4, g5, g6, g7⟩ := by simpa using hg
      simp [Instr.fieldAt, run_underlying hu, hg', Instr.sureAddr, fieldPlace, (tySh_agg hs w).2, Addr.add]
    · cases hf) k

theorem JL.indexS {x ix : Operand} {t e : TypeId} {β off len cap sz : Nat} {b : Bool} {n : Int} (j : Nat) (hx : fr.ev x = some (.slice (some ⟨β, off, none⟩) len cap)) (hi : fr.ev ix = some (.int .i64 n))
    (hu : P.underlying t = some (.slice e)) (hs : tySh P e = some (b, sz)) (hn : n = (j : Int)) (hj : j < len) (hd : Fr.fits N d = true)
    (k : JL P N ops Q rest (fr.put d (.pointer (some ⟨β, off + j * sz, none⟩))) w) : JL P N ops Q (⟨d, .indexAddr t x ix, ty, pos, af, none⟩ :: rest) fr w :=
  JL.val rfl hd (fun a H => by
    subst hn
    simp only [execOp, H.eval hx, H.eval hi]
    simp [Instr.indexAt, asIntOf, run_underlying hu, hj, (tySh_agg hs w).2, Addr.add]) k

theorem JL.indexA {x ix : Operand} {t e : TypeId} {β off len sz : Nat} {b : Bool} {n : Int} (j : Nat) (hx : fr.ev x = some (.pointer (some ⟨β, off, none⟩))) (hi : fr.ev ix = some (.int .i64 n))
    (hu : P.underlying t = some (.array len e)) (hs : tySh P e = some (b, sz)) (hn : n = (j : Int)) (hj : j < len) (hd : Fr.fits N d = true)
    (k : JL P N ops Q rest (fr.put d (.pointer (some ⟨β, off + j * sz, none⟩))) w) : JL P N ops Q (⟨d, .indexAddr t x ix, ty, pos, af, none⟩ :: rest) fr w :=
  JL.val rfl hd (fun a H => by
    subst hn
    simp only [execOp, H.eval hx, H.eval hi]
    simp [Instr.indexAt, asIntOf, run_underlying hu, hj, (tySh_agg hs w).2, Addr.add, Instr.sureAddr]) k

theorem JL.len {x : Operand} {t e : TypeId} {a0 : Option Addr} {n c : Nat} (hx : fr.ev x = some (.slice a0 n c)) (hu : P.underlying t = some (.slice e)) (hd : Fr.fits N d = true)
    (k : JL P N ops Q rest (fr.put d (.int .i64 n)) w) : JL P N ops Q (⟨d, .call ⟨.builtin .len, #[x], #[t]⟩, ty, pos, af, none⟩ :: rest) fr w :=
  JL.val rfl hd (fun a H => by
    simp only [execOp, resolve]
    simp [H.eval hx, invoke, builtin, Builtin.len_, run_underlying hu, goInt]) k

theorem JL.quo {t yt : TypeId} {x y : Operand} {a b : Int} (hx : fr.ev x = some (.int .i64 a)) (hy : fr.ev y = some (.int .i64 b)) (hb : b ≠ 0) (hd : Fr.fits N d = true)
    (k : JL P N ops Q rest (fr.put d (.int .i64 (w64 (a.tdiv b)))) w) : JL P N ops Q (⟨d, .binOp .quo t x y yt, ty, pos, af, none⟩ :: rest) fr w :=
  JL.val rfl hd (fun a H => by
    simp only [execOp, H.eval hx, H.eval hy]
    simp [eqGuard, binOp, Op.intDiv, hb, w64]) k

theorem JL.quoP {t yt : TypeId} {x y : Operand} {a b : Int} (hx : fr.ev x = some (.int .i64 a)) (hy : fr.ev y = some (.int .i64 b)) (ha : 0 ≤ a) (hb : 1 ≤ b) (hi : a ≤ 9223372036854775807) (hd : Fr.fits N d = true)
    (k : JL P N ops Q rest (fr.put d (.int .i64 (a / b))) w) : JL P N ops Q (⟨d, .binOp .quo t x y yt, ty, pos, af, none⟩ :: rest) fr w := by
  refine JL.quo hx hy (by omega) hd ?_
  have h1 : a.tdiv b = a / b := Int.tdiv_eq_ediv_of_nonneg ha
  have h2 : 0 ≤ a / b := Int.ediv_nonneg ha (by omega)
  have h3 : a / b ≤ a := Int.ediv_le_self _ ha
  rw [h1, w64_id ⟨by omega, by omega⟩]
  exact k
/-- sums, differences and products that fit -/
theorem JL.arith {t yt : TypeId} {x y : Operand} {op : BinOp} {n : Int} (hv : pureOp fr (.binOp op t x y yt) = some (.int .i64 (w64 n))) (hn : In64 n) (hd : Fr.fits N d = true)
    (k : JL P N ops Q rest (fr.put d (.int .i64 n)) w) : JL P N ops Q (⟨d, .binOp op t x y yt, ty, pos, af, none⟩ :: rest) fr w :=
  JL.pure (by rw [hv, w64_id hn]) hd k
theorem JL.neg {t : TypeId} {x : Operand} {n : Int} (hv : pureOp fr (.unOp .neg t x) = some (.int .i64 (w64 n))) (hn : In64 n) (hd : Fr.fits N d = true)
    (k : JL P N ops Q rest (fr.put d (.int .i64 n)) w) : JL P N ops Q (⟨d, .unOp .neg t x, ty, pos, af, none⟩ :: rest) fr w :=
  JL.pure (by rw [hv, w64_id hn]) hd k

theorem JL.conv {s t : TypeId} {x : Operand} {k0 k1 : IntKind} {ds : TypeDesc} {n : Int} (hx : fr.ev x = some (.int k0 n)) (hs : P.underlying s = some ds) (hu : P.underlying t = some (.int k1)) (hd : Fr.fits N d = true)
    (k : JL P N ops Q rest (fr.put d (.int k1 (k1.wrap n))) w) : JL P N ops Q (⟨d, .convert s t x, ty, pos, af, none⟩ :: rest) fr w :=
  JL.val rfl hd (fun a H => by
    simp only [execOp, H.eval hx]
    simp [convert, run_underlying hs, run_underlying hu, Conv.intToInt]) k

/-- a function that can be entered -/
def hasBody (P : Program) (f : FuncId) : Bool :=
  match P.funcs[f]? with
  | some fn => !(fn.name == "runtime.NumGoroutine") && !fn.body.isNone
  | none => false

theorem callFunc_run {P : Program} {f : FuncId} (h : hasBody P f = true) (args : Array Value) (w : World) : (callFunc f args).run P w = .ok (.enter f args) w := by
  unfold hasBody at h
  split at h
  · rename_i fn hfn
    simp only [Bool.and_eq_true, Bool.not_eq_true', beq_eq_false_iff_ne] at h
    have h1 : (fn.name == "runtime.NumGoroutine") = false := by simpa using h.1
    simp only [callFunc, bind, Sem.bind, program, Sem.run, hfn, h1, h.2]
    rfl
  · cases h

theorem JL.enter {o : Oper} {f : FuncId} {args : Array Value} {R : Ending → World → Prop} (hg : o.guard = none) (hd : Fr.fits N o.dst = true)
    (hr : ∀ a, Has N fr a → (execOp a.eval o).run P w = .ok (.enter f args) w) (hc : Calls P f args w R)
    (k : ∀ e w', R e w' → ∃ v, e = .returned v ∧ JL P N ops Q rest (fr.put o.dst v) w') : JL P N ops Q (o :: rest) fr w := by
  intro a H
  refine wpListIn_plain hg fun K hK => ⟨fun _ _ => trivial, ?_⟩
  show o.uponIn (wideR N.ro) 0 P a K Q ((Oper.semAt N.ro a.eval o).run P w)
  rw [semAt_run (hr a H) (by simp)]
  refine ⟨fun h => by simp [wideR] at h, callsIn_wide.2 (hc.mono fun e w' he => ?_)⟩
  obtain ⟨v, rfl, hk⟩ := k e w' he
  exact hK _ _ (hk _ (H.putO hd v))

theorem JL.call {f : FuncId} {xs : Array Operand} {tys : Array TypeId} {vs : List Value} {R : Ending → World → Prop} (hb : hasBody P f = true) (hx : fr.evs xs.toList = some vs) (hd : Fr.fits N d = true)
    (hc : Calls P f vs.toArray w R) (k : ∀ e w', R e w' → ∃ v, e = .returned v ∧ JL P N ops Q rest (fr.put d v) w') :
    JL P N ops Q (⟨d, .call ⟨.value (.func f), xs, tys⟩, ty, pos, af, none⟩ :: rest) fr w :=
  JL.enter rfl hd (fun a H => by
    have h1 : (xs.map a.eval) = vs.toArray := by
      apply Array.ext'
      rw [Array.toList_map, H.evs hx]
    simp only [execOp, resolve]
    simp [Act.eval, Deferred.ofValue, h1, invoke, callFunc_run hb]) hc k

theorem JL.callv {f : FuncId} {x : Operand} {first capt : List Value} {xs : Array Operand} {tys : Array TypeId} {vs : List Value} {R : Ending → World → Prop}
    (hf : fr.ev x = some (.func (.func f) ⟨first⟩ ⟨capt⟩)) (hb : hasBody P f = true) (hx : fr.evs xs.toList = some vs) (hd : Fr.fits N d = true)
    (hc : Calls P f (first ++ vs ++ capt).toArray w R) (k : ∀ e w', R e w' → ∃ v, e = .returned v ∧ JL P N ops Q rest (fr.put d v) w') :
    JL P N ops Q (⟨d, .call ⟨.value x, xs, tys⟩, ty, pos, af, none⟩ :: rest) fr w :=
  JL.enter rfl hd (fun a H => by
    have h1 : (xs.map a.eval) = vs.toArray := by
      apply Array.ext'
      rw [Array.toList_map, H.evs hx]
    simp only [execOp, resolve]
    simp [H.eval hf, Deferred.ofValue, h1, invoke, callFunc_run hb]) hc k

theorem JL.nilCheck {x : Operand} {a0 : Addr} (hx : fr.ev x = some (.pointer (some a0))) (hd : Fr.fits N d = true)
    (k : JL P N ops Q rest (fr.put d (.pointer (some a0))) w) : JL P N ops Q (⟨d, .nilCheck x, ty, pos, af, none⟩ :: rest) fr w :=
  JL.val rfl hd (fun a H => by simp only [execOp, H.eval hx]; simp) k

end

/-! ## rules for code -/
section
variable {P : Program} {N : Sz} {Q : Exit → Act → World → Prop} {fr : Fr} {w : World}

theorem JC.seq {x y : Code} (k : JC P N x (Exit.then (fun a w => y.wpIn (wideR N.ro) 0 P Q a w) Q) fr w) : JC P N (.seq x y) Q fr w := fun a H => wpIn_seq (k a H)
theorem JC.skip (k : Ex N Q .normal fr w) : JC P N .skip Q fr w := fun a H => wpIn_skip (k a H)
theorem JC.exit {id : Nat} (k : Ex N Q (.exit id) fr w) : JC P N (.exit id) Q fr w := fun a H => wpIn_exit (k a H)
theorem JC.ret (k : Ex N Q .ret fr w) : JC P N .ret Q fr w := fun a H => wpIn_ret (k a H)
theorem JC.block {id : Nat} {c : Code} (k : JC P N c (Exit.inBlock id Q) fr w) : JC P N (.block id c) Q fr w := fun a H => wpIn_block (k a H)
theorem JC.region {id : Nat} {ops : Array Oper} (k : JL P N ops Q ops.toList fr w) : JC P N (.region id ops false) Q fr w := fun a H => wpIn_region_list (k a H)
theorem JC.cond {c : Operand} {x y : Code} {b : Bool} (hv : fr.ev c = some (.bool b)) (ht : b = true → JC P N x Q fr w) (hf : b = false → JC P N y Q fr w) :
    JC P N (.cond c x y) Q fr w := fun a H => wpIn_cond_split (H.eval hv) (fun h => ht h a H) (fun h => hf h a H)
theorem JC.sub {c : Code} {fr' : Fr} (hs : fr.sub fr') (k : JC P N c Q fr' w) : JC P N c Q fr w := fun _ H => k _ (H.sub hs)

theorem Ex.next {y : Code} {Q' : Exit → Act → World → Prop} (k : JC P N y Q' fr w) : Ex N (Exit.then (fun a w => y.wpIn (wideR N.ro) 0 P Q' a w) Q) .normal fr w := k
theorem Ex.ret_then {K : Act → World → Prop} (k : Ex N Q .ret fr w) : Ex N (Exit.then K Q) .ret fr w := k
theorem Ex.ret_block {id : Nat} (k : Ex N Q .ret fr w) : Ex N (Exit.inBlock id Q) .ret fr w := k
theorem Ex.normal_block {id : Nat} (k : Ex N Q .normal fr w) : Ex N (Exit.inBlock id Q) .normal fr w := k
theorem Ex.exit_then {K : Act → World → Prop} {i : Nat} (k : Ex N Q (.exit i) fr w) : Ex N (Exit.then K Q) (.exit i) fr w := k
theorem Ex.exit_hit {i : Nat} (k : Ex N Q .normal fr w) : Ex N (Exit.inBlock i Q) (.exit i) fr w := fun a H => by simp only [Exit.inBlock, if_true]; exact k a H
theorem Ex.exit_miss {i j : Nat} (h : i ≠ j) (k : Ex N Q (.exit i) fr w) : Ex N (Exit.inBlock j Q) (.exit i) fr w := fun a H => by simp only [Exit.inBlock]; rw [if_neg h]; exact k a H
theorem Ex.sub {e : Exit} {fr' : Fr} (hs : fr.sub fr') (k : Ex N Q e fr' w) : Ex N Q e fr w := fun _ H => k _ (H.sub hs)
theorem Ex.again {ι : Type} {F : ι → Fr} {I : ι → World → Prop} {m : ι → Nat} {x : ι} (x' : ι) (hs : fr.sub (F x')) (hI : I x' w) (hm : m x' < m x) :
    Ex N (Exit.then (fun a w' => ∃ x', Has N (F x') a ∧ I x' w' ∧ m x' < m x) Q) .normal fr w := fun _ H => ⟨x', H.sub hs, hI, hm⟩

/-- a loop: x: what the invariant speaks of -/
theorem JC.loop {ι : Type} {c : Code} (F : ι → Fr) (I : ι → World → Prop) (m : ι → Nat) (x0 : ι) (h0 : fr.sub (F x0)) (hI : I x0 w)
    (round : ∀ x w, I x w → JC P N c (Exit.then (fun a w' => ∃ x', Has N (F x') a ∧ I x' w' ∧ m x' < m x) Q) (F x) w) : JC P N (.loop c) Q fr w := by
  intro a H
  have key : ∀ n x a w, m x < n → Has N (F x) a → I x w → Code.roundsIn (wideR N.ro) 0 P c Q n a w := by
    intro n
    induction n with
    | zero => intro x a w h; omega
    | succ n ih =>
      intro x a w h Ha Hw
      rw [roundsIn_succ]
      refine Code.wpIn_mono (fun e a' w' q => ?_) (round x w Hw a Ha)
      cases e with
      | normal => obtain ⟨x', h1, h2, h3⟩ := q; exact ih x' a' w' (by omega) h1 h2
      | _ => exact q
  exact wpIn_loop_rounds (m x0 + 1) (key _ x0 a w (by omega) (H.sub h0) hI)
end
end Go.J

namespace Go.J
set_option linter.unusedSimpArgs false
set_option linter.unusedVariables false
open Go.RowKit

def frOf : Nat → List Value → Fr
  | _, [] => []
  | i, v :: r => (i, v) :: frOf (i + 1) r

theorem frOf_get : ∀ (l : List Value) (i t : Nat) (v : Value), (frOf i l).get t = some v → i ≤ t ∧ l[t - i]? = some v := by
  intro l
  induction l with
  | nil => intro i t v h; simp [frOf, Fr.get] at h
  | cons x l ih =>
    intro i t v h
    simp only [frOf, Fr.get] at h
    by_cases ht : i = t
    · subst ht; simp at h; subst h; simp
    · have hb : Nat.beq i t = false := by
        cases hb : Nat.beq i t with
        | false => rfl
        | true => exact absurd (Nat.eq_of_beq_eq_true hb) ht
      rw [hb] at h
      obtain ⟨h1, h2⟩ := ih (i + 1) t v (by simpa using h)
      refine ⟨by omega, ?_⟩
      rw [show t - i = (t - (i + 1)) + 1 by omega]
      simpa using h2

/-- what a function's body owes -/
def bodyJ (P : Program) (fn : Func) (R : Ending → World → Prop) : Exit → Act → World → Prop := bodyPostM (wideR none) 0 P fn R
theorem bodyJ_ret {P : Program} {fn : Func} {R : Ending → World → Prop} {a : Act} {w : World} {v : Value} (hr : (results fn a.tmps).run P w = .ok v w) (hd : a.defers = []) (hR : R (.returned v) w) : bodyJ P fn R .ret a w := by
  show LeavesInM (wideR none) 0 P fn a.tmps R a.defers .returning w
  rw [hd]
  exact ⟨v, hr, hR⟩
theorem calls_J {P : Program} {f : FuncId} {fn : Func} {c : Code} {n : Nat} {args : List Value} {w : World} {R : Ending → World → Prop}
    (hf : P.funcs[f]? = some fn) (hb : fn.body = some c) (hn : fn.ntmps = n) (hl : Nat.ble args.length n = true) (k : JC P ⟨n, [], none⟩ c (bodyJ P fn R) (frOf 0 args) w) : Calls P f args.toArray w R := by
  refine callsIn_wide.1 (callsIn_of_wp_marks (F := wideR none) (n := 0) hf hb trivial (k _ ⟨?_, rfl, fun t v e => ?_⟩))
  · have := Nat.le_of_ble_eq_true hl; simp; omega
  · obtain ⟨_, h⟩ := frOf_get _ _ _ _ e
    simp at h
    have hlt : t < args.length := by
      rcases Nat.lt_or_ge t args.length with h' | h'
      · exact h'
      · rw [List.getElem?_eq_none h'] at h; cases h
    rw [Array.getElem?_append_left (by simpa using hlt)]
    simpa using h

/-- what stands in a result's place -/
inductive ResAt (P : Program) (w : World) (fr : Fr) : ResultVar → Value → Prop
  | tmp {t : Tmp} {v : Value} (h : fr.get t = some v) : ResAt P w fr (.tmp t) v
  | cell {a : Tmp} {t : TypeId} {β off : Nat} {sh : Bool × Nat} {v : Value} (h : fr.get a = some (.pointer (some ⟨β, off, none⟩))) (hs : tySh P t = some sh) (hl : LdAt w β off sh v) : ResAt P w fr (.cell a t) v

section
variable {P : Program} {N : Sz} {fr : Fr} {w : World} {fn : Func} {R : Ending → World → Prop} {a : Act}

theorem res1 {r : ResultVar} {v : Value} (H : Has N fr a) (hr : fn.results = #[r]) (h : ResAt P w fr r v) : (results fn a.tmps).run P w = .ok v w := by
  cases h with
  | tmp h => simp [results, hr, H.get _ _ h]
  | cell h hs hl => simp [results, hr, H.get _ _ h, asAddr, run_loadVar hs hl]
theorem res2 {r0 r1 : ResultVar} {v0 v1 : Value} (H : Has N fr a) (hr : fn.results = #[r0, r1]) (h0 : ResAt P w fr r0 v0) (h1 : ResAt P w fr r1 v1) : (results fn a.tmps).run P w = .ok (.tuple #[v0, v1]) w := by
  cases h0 with
  | tmp g0 =>
    cases h1 with
    | tmp g1 =>
      simp [results, hr, H.get _ _ g0, H.get _ _ g1]
    | cell g1 s1 l1 =>
      simp [results, hr, H.get _ _ g0, H.get _ _ g1, asAddr, run_loadVar s1 l1]
  | cell g0 s0 l0 =>
    cases h1 with
    | tmp g1 =>
      simp [results, hr, H.get _ _ g0, asAddr, run_loadVar s0 l0, H.get _ _ g1]
    | cell g1 s1 l1 =>
      simp [results, hr, H.get _ _ g0, asAddr, run_loadVar s0 l0, H.get _ _ g1, asAddr, run_loadVar s1 l1]
theorem res3 {r0 r1 r2 : ResultVar} {v0 v1 v2 : Value} (H : Has N fr a) (hr : fn.results = #[r0, r1, r2]) (h0 : ResAt P w fr r0 v0) (h1 : ResAt P w fr r1 v1) (h2 : ResAt P w fr r2 v2) : (results fn a.tmps).run P w = .ok (.tuple #[v0, v1, v2]) w := by
  cases h0 with
  | tmp g0 =>
    cases h1 with
    | tmp g1 =>
      cases h2 with
      | tmp g2 =>
        simp [results, hr, H.get _ _ g0, H.get _ _ g1, H.get _ _ g2]
      | cell g2 s2 l2 =>
        simp [results, hr, H.get _ _ g0, H.get _ _ g1, H.get _ _ g2, asAddr, run_loadVar s2 l2]
    | cell g1 s1 l1 =>
      cases h2 with
      | tmp g2 =>
        simp [results, hr, H.get _ _ g0, H.get _ _ g1, asAddr, run_loadVar s1 l1, H.get _ _ g2]
      | cell g2 s2 l2 =>
        simp [results, hr, H.get _ _ g0, H.get _ _ g1, asAddr, run_loadVar s1 l1, H.get _ _ g2, asAddr, run_loadVar s2 l2]
  | cell g0 s0 l0 =>
    cases h1 with
    | tmp g1 =>
      cases h2 with
      | tmp g2 =>
        simp [results, hr, H.get _ _ g0, asAddr, run_loadVar s0 l0, H.get _ _ g1, H.get _ _ g2]
      | cell g2 s2 l2 =>
        simp [results, hr, H.get _ _ g0, asAddr, run_loadVar s0 l0, H.get _ _ g1, H.get _ _ g2, asAddr, run_loadVar s2 l2]
    | cell g1 s1 l1 =>
      cases h2 with
      | tmp g2 =>
        simp [results, hr, H.get _ _ g0, asAddr, run_loadVar s0 l0, H.get _ _ g1, asAddr, run_loadVar s1 l1, H.get _ _ g2]
      | cell g2 s2 l2 =>
        simp [results, hr, H.get _ _ g0, asAddr, run_loadVar s0 l0, H.get _ _ g1, asAddr, run_loadVar s1 l1, H.get _ _ g2, asAddr, run_loadVar s2 l2]
theorem Has.noMarks (H : Has N fr a) (hds : N.ds = []) : a.defers = [] := H.defers.trans (by simp [Sz.marks, hds])
theorem Ex.end_ (h : Ex N (bodyJ P fn R) .ret fr w) : Ex N (bodyJ P fn R) .normal fr w := h
theorem Ex.ret0 (hr : fn.results = #[]) (hR : R (.returned (.tuple #[])) w) (hds : N.ds = [] := by rfl) : Ex N (bodyJ P fn R) .ret fr w := fun _ H => bodyJ_ret (results_none hr _ _ _) (H.noMarks hds) hR
theorem Ex.ret1 {r : ResultVar} {v : Value} (hr : fn.results = #[r]) (h : ResAt P w fr r v) (hR : R (.returned v) w) (hds : N.ds = [] := by rfl) : Ex N (bodyJ P fn R) .ret fr w := fun _ H => bodyJ_ret (res1 H hr h) (H.noMarks hds) hR
theorem Ex.ret2 {r s : ResultVar} {v u : Value} (hr : fn.results = #[r, s]) (h : ResAt P w fr r v) (h' : ResAt P w fr s u) (hR : R (.returned (.tuple #[v, u])) w) (hds : N.ds = [] := by rfl) : Ex N (bodyJ P fn R) .ret fr w :=
  fun _ H => bodyJ_ret (res2 H hr h h') (H.noMarks hds) hR
theorem Ex.ret3 {r s q : ResultVar} {v u x : Value} (hr : fn.results = #[r, s, q]) (h : ResAt P w fr r v) (h' : ResAt P w fr s u) (h'' : ResAt P w fr q x) (hR : R (.returned (.tuple #[v, u, x])) w) (hds : N.ds = [] := by rfl) :
    Ex N (bodyJ P fn R) .ret fr w := fun _ H => bodyJ_ret (res3 H hr h h' h'') (H.noMarks hds) hR
end

/-! ## a function that ranged over functions: marks among its deferred calls -/
/-- the block of a range's deferred calls -/
def dfr (D : Nat) : HP := blk D (.deferred (some []))
theorem leavesJ {P : Program} {fn : Func} {tmps : Array Value} {R : Ending → World → Prop} {w0 : World} {M : List HP} (k : ∀ w', Own w0 w' M → ∃ v, (results fn tmps).run P w' = .ok v w' ∧ R (.returned v) w') :
    ∀ (ds : List Nat) (w : World), Own w0 w (ds.map dfr ++ M) → LeavesInM (wideR none) 0 P fn tmps R (ds.map mark) .returning w := by
  intro ds
  induction ds with
  | nil => intro w H; obtain ⟨v, h1, h2⟩ := k w H; exact ⟨v, h1, h2⟩
  | cons D ds ih =>
    intro w H
    have hg := (H.get (i := 0) rfl).2
    have H' := H.put (i := 0) (β := D) rfl (.deferred none) (w' := w.putObj D (.deferred none)) rfl rfl rfl (by simp) (fun j hj _ => World.putObj_heap_other hj) (World.putObj_heap_same (Array.getElem?_eq_some_iff.1 hg).1)
    exact ⟨by simp, .inl ⟨D, _, rfl, run_takeDeferred hg, ih _ (H'.drop 0)⟩⟩
section
variable {P : Program} {N : Sz} {fr : Fr} {w w0 : World} {fn : Func} {R : Ending → World → Prop} {M : List HP}
theorem Ex.retM1 {r : ResultVar} {v : Value} (H : Own w0 w (N.ds.map dfr ++ M)) (hr : fn.results = #[r]) (h : ∀ w', Own w0 w' M → ResAt P w' fr r v) (hR : ∀ w', Own w0 w' M → R (.returned v) w') : Ex N (bodyJ P fn R) .ret fr w := fun a Ha => by
  show LeavesInM (wideR none) 0 P fn a.tmps R a.defers .returning w
  rw [Ha.defers]
  exact leavesJ (fun w' hO => ⟨_, res1 Ha hr (h w' hO), hR w' hO⟩) N.ds w H
theorem Ex.retM2 {r s : ResultVar} {v u : Value} (H : Own w0 w (N.ds.map dfr ++ M)) (hr : fn.results = #[r, s]) (h : ∀ w', Own w0 w' M → ResAt P w' fr r v) (h' : ∀ w', Own w0 w' M → ResAt P w' fr s u)
    (hR : ∀ w', Own w0 w' M → R (.returned (.tuple #[v, u])) w') : Ex N (bodyJ P fn R) .ret fr w := fun a Ha => by
  show LeavesInM (wideR none) 0 P fn a.tmps R a.defers .returning w
  rw [Ha.defers]
  exact leavesJ (fun w' hO => ⟨_, res2 Ha hr (h w' hO) (h' w' hO), hR w' hO⟩) N.ds w H
end
end Go.J

namespace Go.J
set_option linter.unusedSimpArgs false
set_option linter.unusedVariables false
open Go.RowKit

theorem foldl_set (vs : List Value) : ∀ (off i : Nat) (cs : Array Value), off + i + vs.length ≤ cs.size →
    ((vs.zipIdx i).foldl (fun (cs : Array Value) (p : Value × Nat) => cs.setIfInBounds (off + p.2) p.1) cs).size = cs.size ∧
    ∀ j : Nat, ((vs.zipIdx i).foldl (fun (cs : Array Value) (p : Value × Nat) => cs.setIfInBounds (off + p.2) p.1) cs)[j]? = if off + i ≤ j ∧ j < off + i + vs.length then vs[j - (off + i)]? else cs[j]? := by
  induction vs with
  | nil => intro off i cs h; exact ⟨rfl, fun j => by rw [if_neg (by simp)]; rfl⟩
  | cons v vs ih =>
    intro off i cs h
    simp only [List.length_cons] at h
    obtain ⟨h1, h2⟩ := ih off (i + 1) (cs.setIfInBounds (off + i) v) (by simp; omega)
    refine ⟨by simpa using h1, fun j => ?_⟩
    simp only [List.zipIdx_cons, List.foldl_cons]
    rw [h2 j]
    by_cases hc : off + (i + 1) ≤ j ∧ j < off + (i + 1) + vs.length
    · rw [if_pos hc, if_pos (by simp; omega)]
      rw [show j - (off + i) = (j - (off + (i + 1))) + 1 by omega]
      simp
    · rw [if_neg hc]
      by_cases hj : j = off + i
      · subst hj; rw [if_pos (by simp)]; simp [show off + i < cs.size by omega]
      · rw [if_neg (by simp; omega)]; simp [show ¬ off + i = j by omega]

/-- parts laid into the cells of a struct or an array -/
def fillK (fr : Fr) (place : Nat → Option (Nat × Nat)) : List (Nat × Operand) → List Value → Option (List Value)
  | [], cs => some cs
  | (i, x) :: r, cs => match place i with
    | some (off, sz) => match fr.ev x with
      | some v => match cellsO v with
        | some l => bif Nat.beq l.length sz then setK off l cs fun cs' => fillK fr place r cs' else none
        | none => none
      | none => none
    | none => none

theorem fillK_eq {N : Sz} {fr : Fr} {a : Act} (H : Has N fr a) {place : Nat → Option (Nat × Nat)} : ∀ {ps : List (Nat × Operand)} {cs cs' : List Value}, fillK fr place ps cs = some cs' →
    Instr.fill place ⟨cs⟩ (ps.map fun p => (p.1, a.eval p.2)) = some ⟨cs'⟩ := by
  intro ps
  induction ps with
  | nil => intro cs cs' h; simp [fillK] at h; subst h; rfl
  | cons p ps ih =>
    obtain ⟨i, x⟩ := p
    intro cs cs' h
    simp only [fillK] at h
    cases hp : place i with
    | none => rw [hp] at h; cases h
    | some q =>
      obtain ⟨off, sz⟩ := q
      rw [hp] at h
      simp only at h
      cases hv : fr.ev x with
      | none => rw [hv] at h; cases h
      | some v =>
        rw [hv] at h
        simp only at h
        cases hc : cellsO v with
        | none => rw [hc] at h; cases h
        | some l =>
          rw [hc] at h
          simp only at h
          cases hb : Nat.beq l.length sz with
          | false => rw [hb] at h; cases h
          | true =>
            rw [hb] at h
            simp only [cond_true] at h
            obtain ⟨m, h1, h2, h3, h4⟩ := setK_eq h
            have hl := Nat.eq_of_beq_eq_true hb
            have := ih h1
            simp only [List.map_cons, Instr.fill, hp, H.eval hv, cellsO_eq hc]
            rw [if_neg (by simp; omega)]
            have hf := foldl_set l off 0 ⟨cs⟩ (by simpa using h3)
            have e : (Array.foldl (fun (cs : Array Value) (p : Value × Nat) => cs.setIfInBounds (off + p.2) p.1) ⟨cs⟩ (Array.zipIdx ⟨l⟩)) = ⟨m⟩ := by
              rw [← Array.foldl_toList]
              apply Array.ext'
              apply List.ext_getElem?
              intro j
              have := hf.2 j
              simp at this
              simp [h4 j]
              exact this
            have e' : (fun (cs : Array Value) (x : Value × Nat) => match x with | (c, j) => cs.setIfInBounds (off + j) c) = fun (cs : Array Value) (p : Value × Nat) => cs.setIfInBounds (off + p.2) p.1 := by
              funext cs x; rfl
            rw [e', e]
            exact this

def plcs (P : Program) : List Field → Option (List (Nat × Nat))
  | [] => some []
  | f :: r => match P.info? f.type, plcs P r with
    | some i, some l => some ((f.offset, i.size) :: l)
    | _, _ => none

theorem plcs_run {P : Program} : ∀ {fs : List Field} {l : List (Nat × Nat)}, plcs P fs = some l → ∀ w : World,
    (fs.mapM (fun f => do pure (f.offset, ← sizeOf f.type)) : Sem (List (Nat × Nat))).run P w = .ok l w := by
  intro fs
  induction fs with
  | nil => intro l h w; simp [plcs] at h; subst h; simp
  | cons f fs ih =>
    intro l h w
    simp only [plcs] at h
    split at h
    · rename_i i m hi hm
      cases h
      have hs : (sizeOf f.type).run P w = .ok i.size w := by simp [sizeOf, typeInfo, hi]
      rw [List.mapM_cons, Sem.run_bind, Sem.run_bind, hs]
      simp only [Result.andThen]
      show Sem.run P (List.mapM (fun f => do Pure.pure (f.offset, ← sizeOf f.type)) fs >>= fun l => Pure.pure ((f.offset, i.size) :: l)) w = _
      rw [Sem.run_bind, ih hm w]
      rfl
    · cases h

/-- the places of a struct's fields, and its cells at first -/
def tyStruct (P : Program) (t : TypeId) : Option (List (Nat × Nat) × List Value) :=
  match P.underlying t with
  | some (.struct fs) => match plcs P fs.toList, tyZero P t with
    | some l, some z => some (l, z)
    | _, _ => none
  | _ => none

section
variable {P : Program} {N : Sz} {ops : Array Oper} {Q : Exit → Act → World → Prop} {rest : List Oper} {fr : Fr} {w w0 : World} {L : List HP}
  {d : Option Tmp} {ty : TypeId} {pos : String} {af : Array Edge}

theorem JL.build {t : TypeId} {ps : Array (Nat × Operand)} {pl : List (Nat × Nat)} {z cs : List Value} (ht : tyStruct P t = some (pl, z)) (hc : fillK fr (fun i => pl[i]?) ps.toList z = some cs)
    (hd : Fr.fits N d = true) (k : JL P N ops Q rest (fr.put d (.agg ⟨cs⟩)) w) : JL P N ops Q (⟨d, .build t ps, ty, pos, af, none⟩ :: rest) fr w := by
  refine JL.val rfl hd (fun a H => ?_) k
  unfold tyStruct at ht
  split at ht
  · rename_i fs hu
    split at ht
    · rename_i l z' hp hz
      cases ht
      obtain ⟨zv, h1, h2⟩ := tyZero_run hz w
      have hpl : (Array.mapM (fun f => do Pure.pure (f.offset, ← sizeOf f.type)) fs : Sem (Array (Nat × Nat))).run P w = .ok ⟨pl⟩ w := by
        rw [← Array.toArray_toList (xs := fs), List.mapM_toArray, Sem.run_map, plcs_run hp w]
        rfl
      have hf := fillK_eq H hc
      have e1 : (Array.map (fun (p : Nat × Operand) => (p.1, a.eval p.2)) ps).toList = ps.toList.map fun p => (p.1, a.eval p.2) := by simp
      simp only [execOp, Instr.build]
      rw [Sem.run_bind, Sem.run_bind, h1]
      simp only [Result.andThen]
      rw [Sem.run_bind, run_underlying hu]
      simp only [Result.andThen]
      rw [Sem.run_bind, hpl]
      simp only [Result.andThen, h2, e1]
      have hf' : Instr.fill (fun x => (⟨pl⟩ : Array (Nat × Nat))[x]?) ⟨z⟩ (ps.toList.map fun p => (p.1, a.eval p.2)) = some ⟨cs⟩ := by simpa using hf
      rw [hf']
      rfl
    · cases ht
  · cases ht

theorem range_rep (zs : List Value) (_ : 0 < zs.length) : ∀ n : Nat, (List.range (n * zs.length)).map (fun i => (zs[i % zs.length]?).getD default) = (List.replicate n zs).flatten := by
  intro n
  induction n with
  | zero => simp
  | succ n ih =>
    rw [Nat.succ_mul, List.range_add, List.map_append, ih, List.replicate_succ', List.flatten_append]
    congr 1
    simp only [List.map_map, List.flatten_cons, List.flatten_nil, List.append_nil]
    apply List.ext_getElem?
    intro i
    rw [List.getElem?_map]
    by_cases hi : i < zs.length
    · rw [List.getElem?_range hi]
      simp only [Option.map_some, Function.comp_apply]
      rw [Nat.mul_add_mod_self_right, Nat.mod_eq_of_lt hi, List.getElem?_eq_getElem hi]
      rfl
    · rw [List.getElem?_eq_none (by simpa using hi), List.getElem?_eq_none (by omega)]; rfl

/-- the cells of an element at first -/
theorem JL.buildSlice {t e : TypeId} {n sz : Nat} {b : Bool} {ps : Array (Nat × Operand)} {z cs : List Value} (H : Own w0 w L) (hu : P.underlying t = some (.slice e)) (hs : tySh P e = some (b, sz)) (hz : tyZero P e = some z)
    (hn : Nat.ble (n * sz) 16777216 = true) (hzl : z.length = sz) (hpos : Nat.ble 1 sz = true) (hc : fillK fr (fun i => some (i * sz, sz)) ps.toList (List.replicate n z).flatten = some cs) (hd : Fr.fits N d = true)
    (k : ∀ β w', Own w0 w' (blk β (.cells ⟨cs⟩ e (0, 0)) :: L) → JL P N ops Q rest (fr.put d (.slice (some ⟨β, 0, none⟩) n n)) w') :
    JL P N ops Q (⟨d, .buildSlice t n ps, ty, pos, af, none⟩ :: rest) fr w := by
  refine JL.val rfl hd (fun a Ha => ?_) (k w.heap.size (w.alloc (.cells ⟨cs⟩ e (0, 0))) (H.new _))
  obtain ⟨zv, h1, h2⟩ := tyZero_run hz w
  have hn' := Nat.le_of_ble_eq_true hn
  have hp' := Nat.le_of_ble_eq_true hpos
  have hf := fillK_eq Ha hc
  have e1 : (Array.map (fun (p : Nat × Operand) => (p.1, a.eval p.2)) ps).toList = ps.toList.map fun p => (p.1, a.eval p.2) := by simp
  simp only [execOp, Instr.buildSlice]
  rw [Sem.run_bind, Sem.run_bind, run_underlying hu]
  simp only [Result.andThen]
  rw [Sem.run_bind, (tySh_agg hs w).2]
  simp only [Result.andThen]
  rw [if_neg (by simp; omega)]
  by_cases h0 : n * sz = 0
  · have hn0 : n = 0 := by
      rcases Nat.eq_zero_or_pos n with h | h
      · exact h
      · have := Nat.mul_pos h hp'; omega
    subst hn0
    simp at hf
    have hr0 : Array.range 0 = #[] := rfl
    have hf' : Instr.fill (fun i => some (i * sz, sz)) #[] (List.map (fun p => (p.1, a.eval p.2)) ps.toList) = some ⟨cs⟩ := hf
    simp [hr0, hf', newRow, newObj, Sem.run]
  · rw [if_neg h0]
    have hz1 : ((Array.range (n * sz)).map fun i => zv.cells[i % zv.cells.size]!) = ⟨(List.replicate n z).flatten⟩ := by
      rw [h2, ← hzl]
      apply Array.ext'
      have := range_rep z (by omega) n
      simp only [Array.toList_map, Array.toList_range]
      rw [← this]
      apply List.map_congr_left
      intro i _
      simp [Array.getElem!_eq_getD, Array.getD_eq_getD_getElem?]
    rw [Sem.run_bind, h1]
    simp only [Result.andThen]
    rw [Sem.run_bind, Sem.run_pure]
    simp only [Result.andThen]
    rw [hz1, e1, hf]
    simp [newRow, newObj, Sem.run]
end
end Go.J

namespace Go.J
set_option linter.unusedSimpArgs false
set_option linter.unusedVariables false
open Go.RowKit

/-! ## regions that draw their order -/
theorem starL_perm {L M : List HP} (hp : L.Perm M) : ∀ {h : Hp}, starL L h → starL M h := by
  induction hp with
  | nil => exact fun h => h
  | cons x _ ih => exact fun h => star_mono (fun _ h => h) (fun _ h => ih h) h
  | swap x y l => exact fun h => star_left_comm h
  | trans _ _ ih1 ih2 => exact fun h => ih2 (ih1 h)
theorem Own.perm {w0 w : World} {L M : List HP} (H : Own w0 w L) (hp : L.Perm M) : Own w0 w M := H.entail fun _ h => starL_perm hp h
/-- entry j comes to the front -/
theorem Own.front {w0 w : World} {L : List HP} (H : Own w0 w L) {A : HP} (j : Nat) (hi : L[j]? = some A) : Own w0 w (A :: L.eraseIdx j) := H.entail fun _ hs => starL_focus hi hs
theorem Own.right {w0 w : World} {M : List HP} : ∀ {X : List HP}, Own w0 w (X ++ M) → Own w0 w M := by
  intro X
  induction X with
  | nil => exact fun H => H
  | cons A X ih => exact fun H => ih (H.drop 0)
/-- what is known of an operation's value: it is c; or it is some v, with memory A v of its own (A' v behind operation s) -/
inductive Kn where
  | det (i : Nat) (d : Option Tmp) (c : Value)
  | nd (i : Nat) (d : Tmp) (s : Option Nat) (A A' : Value → HP)
def Kn.i : Kn → Nat
  | .det i _ _ => i
  | .nd i _ _ _ _ => i
def Kn.d : Kn → Option Tmp
  | .det _ d _ => d
  | .nd _ d _ _ _ => some d
def Kn.s : Kn → Option Nat
  | .det _ _ _ => none
  | .nd _ _ s _ _ => s
def Kn.val (vals : Nat → Value) : Kn → Value
  | .det _ _ c => c
  | .nd i _ _ _ _ => vals i
def Kn.hp (l : Nat → Bool) (vals : Nat → Value) : Kn → Option HP
  | .det _ _ _ => none
  | .nd i _ s A A' => bif l i then some ((bif (match s with | some s => l s | none => false) then A' else A) (vals i)) else none
def depsOf (af : Array Edge) (i : Nat) : Bool := af.toList.any fun e => Nat.beq e.on i && Region.binds .any e
/-- the frame that an operation may lean on -/
def frDet (dep : Nat → Bool) : List Kn → Fr → Fr
  | [], fr => fr
  | .det i (some d) c :: r, fr => bif dep i then (d, c) :: frDet dep r fr else frDet dep r fr
  | _ :: r, fr => frDet dep r fr
theorem Has.more {N : Sz} {fr : Fr} {a : Act} {t : Nat} {v : Value} (H : Has N fr a) (hv : a.tmps[t]? = some v) : Has N ((t, v) :: fr) a := by
  refine ⟨H.size, H.defers, fun u x e => ?_⟩
  simp only [Fr.get] at e
  by_cases ht : t = u
  · subst ht; simp at e; subst e; exact hv
  · have : Nat.beq t u = false := by
      cases hb : Nat.beq t u with
      | false => rfl
      | true => exact absurd (Nat.eq_of_beq_eq_true hb) ht
    rw [this] at e
    exact H.get u x (by simpa using e)
/-- the slots of what has come -/
def Come (vals : Nat → Value) (ks : List Kn) (S : Nat → Prop) (a : Act) : Prop := ∀ kn ∈ ks, S kn.i → ∀ d, kn.d = some d → a.tmps[d]? = some (kn.val vals)
theorem frDet_has {N : Sz} {fr : Fr} {a : Act} {vals : Nat → Value} {dep : Nat → Bool} (H : Has N fr a) : ∀ {ks : List Kn}, Come vals ks (fun i => dep i = true) a → Has N (frDet dep ks fr) a := by
  intro ks
  induction ks with
  | nil => intro _; exact H
  | cons kn ks ih =>
    intro hc
    have hr := ih (fun kn h => hc kn (List.mem_cons_of_mem _ h))
    cases kn with
    | det i d c =>
      cases d with
      | none => exact hr
      | some d =>
        simp only [frDet]
        cases hd : dep i with
        | false => exact hr
        | true => exact hr.more (hc _ List.mem_cons_self hd d rfl)
    | nd i d s A A' => exact hr
def Fr.keep (k : Nat → Bool) : Fr → Fr
  | [] => []
  | (t, v) :: r => bif k t then (t, v) :: Fr.keep k r else Fr.keep k r
theorem Fr.keep_get {k : Nat → Bool} : ∀ {fr : Fr} {t : Nat} {v : Value}, (fr.keep k).get t = some v → fr.get t = some v ∧ k t = true := by
  intro fr
  induction fr with
  | nil => intro t v h; cases h
  | cons p fr ih =>
    obtain ⟨u, x⟩ := p
    intro t v h
    simp only [Fr.keep] at h
    simp only [Fr.get]
    cases hd : k u with
    | true =>
      rw [hd] at h
      simp only [cond_true, Fr.get] at h
      cases hb : Nat.beq u t with
      | true => rw [hb] at h; rw [← Nat.eq_of_beq_eq_true hb]; exact ⟨by simpa using h, hd⟩
      | false => rw [hb] at h; exact ih (by simpa using h)
    | false =>
      rw [hd] at h
      simp only [cond_false] at h
      obtain ⟨h1, h2⟩ := ih h
      cases hb : Nat.beq u t with
      | true => rw [Nat.eq_of_beq_eq_true hb] at hd; rw [hd] at h2; cases h2
      | false => exact ⟨by simpa using h1, h2⟩
/-- what writes slot t comes behind operation i -/
def lateB (t i : Nat) : List Oper → Bool
  | [] => true
  | o :: r => (match o.dst with | some d => bif Nat.beq d t then depsOf o.after i else true | none => true) && lateB t i r
theorem lateB_spec {t i : Nat} : ∀ {l : List Oper}, lateB t i l = true → ∀ o ∈ l, o.dst = some t → depsOf o.after i = true := by
  intro l
  induction l with
  | nil => intro _ o h; cases h
  | cons x l ih =>
    intro h o ho hd
    simp only [lateB, Bool.and_eq_true] at h
    cases ho with
    | head => have := h.1; rw [hd] at this; simpa using this
    | tail _ ho => exact ih h.2 o ho hd
/-- what of the frame is still there when operation i comes -/
def frAtM (ops : Array Oper) (m n : Nat) (fr : Fr) (i : Nat) : Fr := fr.keep fun t => lateB t i ((ops.toList.take n).drop m)
def frAt (ops : Array Oper) (n : Nat) (fr : Fr) (i : Nat) : Fr := frAtM ops 0 n fr i

def onB (ops : Array Oper) (i j : Nat) : Bool := match ops[i]? with | some o => depsOf o.after j | none => false
/-- may operation i come when the first p writes are done, and no more? -/
def phOK (ops : Array Oper) (es : List Nat) (i p : Nat) : Bool := (es.take p).all (fun e => !(Nat.beq i e || onB ops e i)) && (es.drop p).all (fun e => !onB ops i e)
/-- each write waits for the one ahead -/
def esB (ops : Array Oper) : List Nat → Bool
  | [] => true
  | e :: r => Nat.blt e ops.size && r.all (fun e' => onB ops e' e) && esB ops r
/-- behind one operation -/
def AtOp (N : Sz) (w0 : World) (kn : Kn) (M : List HP) (a : Act) (w' : World) : Prop := a.defers = N.marks ∧ match kn with
  | .det _ d c => (∀ t, d = some t → a.tmps[t]? = some c) ∧ Own w0 w' M
  | .nd _ d _ A _ => ∃ v, a.tmps[d]? = some v ∧ Own w0 w' (A v :: M)
/-- how many writes are done behind operation i -/
def nextP (es : List Nat) (i p : Nat) : Nat := bif es.contains i then p + 1 else p
def frFin : List Kn → Fr → List HP → (Fr → List HP → Prop) → Prop
  | [], fr, M, k => k fr M
  | .det _ (some d) c :: r, fr, M, k => frFin r ((d, c) :: fr) M k
  | .det _ none _ :: r, fr, M, k => frFin r fr M k
  | .nd _ d s A A' :: r, fr, M, k => ∀ v, frFin r ((d, v) :: fr) ((bif s.isSome then A' else A) v :: M) k
section
variable (P : Program) (N : Sz) (ops : Array Oper) (Q : Exit → Act → World → Prop) (n : Nat) (es : List Nat) (Ls : Nat → List HP) (w0 : World) (fr0 : Nat → Fr) (Z : Fr → World → Prop)
/-- what an operation owes: by itself -/
def Ob (o : Oper) (i : Nat) (kn : Kn) (ks : List Kn) (fr : Fr) : Option Kn → Prop
  | some (.nd k d s A A') => Kn.nd k d s A A' ∈ ks ∧ depsOf o.after k = true ∧ (s = none ∨ s = some i ∧ ∃ c, kn = .det i none c) ∧ (∀ k' ∈ ks, k'.s = some i → k' = .nd k d s A A') ∧
      ∀ p a w X v, p ≤ es.length → phOK ops es i p = true → Own w0 w (A v :: (X ++ Ls p)) → Has N (frDet (depsOf o.after) ks fr) a → a.tmps[d]? = some v →
        wpListIn (wideR N.ro) 0 P ops (Exit.then (AtOp N w0 kn ((if s = some i then A' v else A v) :: (X ++ Ls (nextP es i p)))) Q) [o] a w
  | _ => (∀ k' ∈ ks, k'.s ≠ some i) ∧ ∀ p a w X, p ≤ es.length → phOK ops es i p = true → Own w0 w (X ++ Ls p) → Has N (frDet (depsOf o.after) ks fr) a →
        wpListIn (wideR N.ro) 0 P ops (Exit.then (AtOp N w0 kn (X ++ Ls (nextP es i p))) Q) [o] a w
def SOk (kn : Kn) : Prop := ∀ s, kn.s = some s → kn.i < s ∧ s < n ∧ onB ops s kn.i = true
/-- the operations of a region, each by itself -/
def JD : List Oper → Nat → List Kn → Prop
  | [], _, ks => ∀ w, frFin ks (fr0 n) (Ls es.length) fun fr M => Own w0 w M → Z fr w
  | o :: r, i, ks => ∃ kn dep, kn.i = i ∧ kn.d = o.dst ∧ SOk ops n kn ∧ Ob P N ops Q es Ls w0 o i kn ks (fr0 i) dep ∧ JD r (i + 1) (kn :: ks)
end
/-- slots are written once, and none that is known from before -/
def freshB : List Oper → Bool
  | [] => true
  | o :: r => (match o.dst with
    | some d => r.all fun o' => !(o'.dst == some d)
    | none => true) && freshB r

def backB (ops : Array Oper) : Bool :=
  (List.range ops.size).all fun i => match ops[i]? with
    | some o => o.after.toList.all fun e => !Region.binds .any e || decide (e.on < i)
    | none => true

def drawB (ops : Array Oper) (n : Nat) : Bool :=
  backB ops && decide (n ≤ ops.size) && (decide (n = ops.size) || (Region.sinkB .any ops n && Region.chainB .any ops n)) &&
    Region.seqB .any ops (ops.size - n) n (Array.replicate n true ++ Array.replicate (ops.size - n) false)

theorem Oper.wpIn_tmps {F : Fence} {k : Nat} {P : Program} {o : Oper} {a : Act} {w : World} {next : Act → World → Prop} {Q : Exit → Act → World → Prop} (h : o.wpIn F k P a w next Q) :
    o.wpIn F k P a w (fun a' w' => next a' w' ∧ ∃ v, a'.tmps = (a.put o.dst v).tmps) Q := by
  unfold Oper.wpIn at *
  refine ⟨h.1, ?_⟩
  have h := h.2
  generalize (o.semAt F.round a.eval).run P w = r at *
  cases r with
  | ok x w' =>
    cases x <;> simp only [Oper.uponIn] at h ⊢ <;>
      first
        | exact h
        | exact ⟨h, _, rfl⟩
        | (refine ⟨h, undef, ?_⟩; cases o.dst <;> rfl)
        | exact ⟨h.1, CallsIn.mono h.2 (fun e w'' he => by cases e <;> first | exact ⟨he, _, rfl⟩ | exact he)⟩
        | exact ⟨h.1, RowsIn.mono h.2 (fun _ _ he => ⟨he, _, rfl⟩)⟩
        | exact ⟨h.1, RoundIn.mono h.2 (fun e w'' he => by cases e <;> first | exact ⟨he, _, rfl⟩ | exact he)⟩
  | halt x w' => cases x <;> simp only [Oper.uponIn] at h ⊢ <;> exact h

theorem Oper.wpIn_exits {F : Fence} {k : Nat} {P : Program} {o : Oper} {a : Act} {w : World} {next : Act → World → Prop} {Q Q' : Exit → Act → World → Prop} (hq : ∀ e a w, e ≠ .normal → Q e a w → Q' e a w)
    (h : o.wpIn F k P a w next Q) : o.wpIn F k P a w next Q' := by
  unfold Oper.wpIn at *
  refine ⟨h.1, ?_⟩
  have h := h.2
  generalize (o.semAt F.round a.eval).run P w = r at *
  have hl : LetsOut Q → LetsOut Q' := fun ⟨a, w, x⟩ => ⟨a, w, hq _ _ _ (by simp) x⟩
  cases r with
  | ok x w' =>
    cases x <;> simp only [Oper.uponIn] at h ⊢ <;>
      first
        | exact h
        | exact ⟨h.1, CallsIn.mono h.2 (fun e w'' he => by cases e <;> first | exact he | exact hq _ _ _ (by simp) he | exact hl he)⟩
        | exact ⟨h.1, RoundIn.mono h.2 (fun e w'' he => by cases e <;> first | exact he | exact hq _ _ _ (by simp) he | exact hl he)⟩
  | halt x w' => cases x <;> simp only [Oper.uponIn] at h ⊢ <;> first | exact h | exact hq _ _ _ (by simp) h

theorem freshB_spec : ∀ {l : List Oper}, freshB l = true → ∀ (p : Nat) (o : Oper) (d : Tmp), l[p]? = some o → o.dst = some d →
    ∀ (q : Nat) (o' : Oper), q ≠ p → l[q]? = some o' → o'.dst ≠ some d := by
  intro l
  induction l with
  | nil => intro _ p o d h; simp at h
  | cons x l ih =>
    intro h p o d hp hd
    simp only [freshB, Bool.and_eq_true] at h
    obtain ⟨h1, h2⟩ := h
    cases p with
    | zero =>
      simp at hp
      subst hp
      rw [hd] at h1
      intro q o' hq ho'
      cases q with
      | zero => exact absurd rfl hq
      | succ q =>
        simp at ho'
        have := List.all_eq_true.1 h1 o' (List.mem_of_getElem? ho')
        simpa using this
    | succ p =>
      simp at hp
      have g2 := ih h2 p o d hp hd
      intro q o' hq ho'
      cases q with
      | zero =>
        simp at ho'
        subst ho'
        intro he
        rw [he] at h1
        have := List.all_eq_true.1 h1 o (List.mem_of_getElem? hp)
        simp [hd] at this
      | succ q => simp at ho'; exact g2 q o' (by omega) ho'

section
variable {P : Program} {N : Sz} {ops : Array Oper} {Q : Exit → Act → World → Prop} {n : Nat} {es : List Nat} {Ls : Nat → List HP} {w0 : World} {fr0 : Nat → Fr} {Z : Fr → World → Prop}
theorem backB_spec {ops : Array Oper} (h : backB ops = true) {i : Nat} {o : Oper} (ho : ops[i]? = some o) {e : Edge} (he : e ∈ o.after) (hb : Region.binds .any e = true) : e.on < i := by
  have hi : i < ops.size := (Array.getElem?_eq_some_iff.1 ho).1
  have h1 := List.all_eq_true.1 h i (List.mem_range.2 hi)
  rw [ho] at h1
  have h2 := List.all_eq_true.1 h1 e (Array.mem_toList_iff.2 he)
  simpa [hb] using h2


theorem JD.spread : ∀ {l : List Oper} {i : Nat} {ks : List Kn}, JD P N ops Q n es Ls w0 fr0 Z l i ks → (∀ kn ∈ ks, kn.i < i) → ks.Nodup → (∀ k1 ∈ ks, ∀ k2 ∈ ks, k1.i = k2.i → k1 = k2) → (∀ kn ∈ ks, SOk ops n kn) →
    ∃ KS : List Kn, (∀ kn ∈ ks, kn ∈ KS) ∧ KS.Nodup ∧ (∀ k1 ∈ KS, ∀ k2 ∈ KS, k1.i = k2.i → k1 = k2) ∧ (∀ kn ∈ KS, SOk ops n kn) ∧
      (∀ w, frFin KS (fr0 n) (Ls es.length) fun fr M => Own w0 w M → Z fr w) ∧
      (∀ kn ∈ KS, kn ∈ ks ∨ (i ≤ kn.i ∧ kn.i < i + l.length)) ∧
      ∀ (p : Nat) (o : Oper), l[p]? = some o → ∃ kn dep ks', kn.i = i + p ∧ kn ∈ KS ∧ kn.d = o.dst ∧ (∀ k ∈ ks', k ∈ KS) ∧ (∀ k ∈ KS, k.i < i + p → k ∈ ks') ∧ Ob P N ops Q es Ls w0 o (i + p) kn ks' (fr0 (i + p)) dep := by
  intro l
  induction l with
  | nil => intro i ks h hi hn hu hs; exact ⟨ks, fun _ h => h, hn, hu, hs, h, fun _ h => .inl h, fun p o h => by simp at h⟩
  | cons x l ih =>
    intro i ks h hi hn hu hs
    obtain ⟨kn, dep, e1, e2, e3, e4, h'⟩ := h
    have hnew : kn ∉ ks := fun h => by have := hi kn h; omega
    obtain ⟨KS, g1, g2, g3, g4, g5, g6, g7⟩ := ih h' (by intro k hk; cases hk with | head => omega | tail _ hk => have := hi k hk; omega) (List.nodup_cons.2 ⟨hnew, hn⟩)
      (by
        intro k1 h1 k2 h2 h12
        cases h1 with
        | head => cases h2 with
          | head => rfl
          | tail _ h2 => have := hi k2 h2; omega
        | tail _ h1 => cases h2 with
          | head => have := hi k1 h1; omega
          | tail _ h2 => exact hu k1 h1 k2 h2 h12)
      (by intro k hk; cases hk with | head => exact e3 | tail _ hk => exact hs k hk)
    refine ⟨KS, fun k hk => g1 k (List.mem_cons_of_mem _ hk), g2, g3, g4, g5, fun k hk => ?_, fun p o hp => ?_⟩
    · rcases g6 k hk with h | h
      · cases h with
        | head => right; simp; omega
        | tail _ h => exact .inl h
      · right; simp; omega
    · cases p with
      | zero =>
        simp at hp
        subst hp
        refine ⟨kn, dep, ks, by omega, g1 _ List.mem_cons_self, e2, fun k hk => g1 k (List.mem_cons_of_mem _ hk), fun k hk hki => ?_, e4⟩
        rcases g6 k hk with h | h
        · cases h with
          | head => omega
          | tail _ h => exact h
        · omega
      | succ p =>
        simp at hp
        obtain ⟨kn', dep', ks', f1, f2, f3, f4, f5, f6⟩ := g7 p o hp
        exact ⟨kn', dep', ks', by omega, f2, f3, f4, fun k hk hki => f5 k hk (by omega), by rw [show i + (p + 1) = i + 1 + p by omega]; exact f6⟩
theorem least_unlisted {listed : Array Bool} {n : Nat} : ∀ m, m < n → listed.getD m false = false → ∃ i, i < n ∧ listed.getD i false = false ∧ ∀ j, j < i → listed.getD j false = true := by
  intro m
  induction m using Nat.strongRecOn with
  | _ m ih =>
    intro hm hl
    by_cases h : ∃ j, j < m ∧ listed.getD j false = false
    · obtain ⟨j, hj, hj'⟩ := h
      exact ih j hj (by omega) hj'
    · refine ⟨m, hm, hl, fun j hj => ?_⟩
      cases hc : listed.getD j false with
      | true => rfl
      | false => exact absurd ⟨j, hj, hc⟩ h

/-- the values from before that are not written over -/
structure Old (N : Sz) (ops : Array Oper) (m n : Nat) (fr : Fr) (listed : Array Bool) (a : Act) : Prop where
  size : a.tmps.size = N.n
  defers : a.defers = N.marks
  get : ∀ t v, fr.get t = some v → (∀ (j : Nat) (o : Oper), m ≤ j → j < n → ops[j]? = some o → o.dst = some t → listed.getD j false = false) → a.tmps[t]? = some v
theorem depsOf_spec {af : Array Edge} {i : Nat} (h : depsOf af i = true) : ∃ e ∈ af, e.on = i ∧ Region.binds .any e = true := by
  simp only [depsOf, List.any_eq_true, Bool.and_eq_true] at h
  obtain ⟨e, he, h1, h2⟩ := h
  exact ⟨e, Array.mem_toList_iff.1 he, Nat.eq_of_beq_eq_true h1, h2⟩
theorem Old.at {N : Sz} {ops : Array Oper} {m n : Nat} {fr : Fr} {listed : Array Bool} {a : Act} (H : Old N ops m n fr listed a) {i : Nat} (inv : HeadInv .any ops n listed) (hl : listed.getD i false = false) : Has N (frAtM ops m n fr i) a := by
  refine ⟨H.size, H.defers, fun t v e => ?_⟩
  obtain ⟨h1, h2⟩ := Fr.keep_get e
  refine H.get t v h1 fun j o hmj hj ho hd => ?_
  have h3 := lateB_spec h2 o (List.mem_of_getElem? (i := j - m) (by rw [List.getElem?_drop, List.getElem?_take, show m + (j - m) = j by omega]; simp [hj, ho])) hd
  obtain ⟨e, he, h4, h5⟩ := depsOf_spec h3
  cases hc : listed.getD j false with
  | false => rfl
  | true =>
    have := inv.closed j o ho hc e he h5
    rw [h4, hl] at this; cases this
theorem Old.atEnd {N : Sz} {ops : Array Oper} {m n : Nat} {fr : Fr} {listed : Array Bool} {a : Act} (H : Old N ops m n fr listed a) (hb : backB ops = true) : Has N (frAtM ops m n fr n) a := by
  refine ⟨H.size, H.defers, fun t v e => ?_⟩
  obtain ⟨h1, h2⟩ := Fr.keep_get e
  refine H.get t v h1 fun j o hmj hj ho hd => ?_
  have h3 := lateB_spec h2 o (List.mem_of_getElem? (i := j - m) (by rw [List.getElem?_drop, List.getElem?_take, show m + (j - m) = j by omega]; simp [hj, ho])) hd
  obtain ⟨e, he, h4, h5⟩ := depsOf_spec h3
  have := backB_spec hb ho he h5
  omega

theorem esB_spec {ops : Array Oper} : ∀ {es : List Nat}, esB ops es = true → ∀ (p q e e' : Nat), p < q → es[p]? = some e → es[q]? = some e' → onB ops e' e = true := by
  intro es
  induction es with
  | nil => intro _ p q e e' _ h; simp at h
  | cons x r ih =>
    intro h p q e e' hpq h1 h2
    simp only [esB, Bool.and_eq_true] at h
    cases q with
    | zero => omega
    | succ q =>
      simp at h2
      cases p with
      | zero =>
        simp at h1
        subst h1
        exact List.all_eq_true.1 h.1.2 e' (List.mem_of_getElem? h2)
      | succ p => simp at h1; exact ih h.2 p q e e' (by omega) h1 h2
theorem onB_spec {ops : Array Oper} {i j : Nat} (h : onB ops i j = true) : ∃ o, ops[i]? = some o ∧ depsOf o.after j = true := by
  unfold onB at h
  split at h
  · rename_i o ho; exact ⟨o, ho, h⟩
  · cases h
theorem es_inj {ops : Array Oper} (hb : backB ops = true) {es : List Nat} (h : esB ops es = true) {p q i : Nat} (h1 : es[p]? = some i) (h2 : es[q]? = some i) : p = q := by
  have key : ∀ (p q : Nat), p < q → es[p]? = some i → es[q]? = some i → False := by
    intro p q hpq h1 h2
    obtain ⟨o, ho, hd⟩ := onB_spec (esB_spec h p q i i hpq h1 h2)
    obtain ⟨x, hx, h4, h5⟩ := depsOf_spec hd
    have := backB_spec hb ho hx h5
    omega
  rcases Nat.lt_trichotomy p q with hpq | hpq | hpq
  · exact (key p q hpq h1 h2).elim
  · exact hpq
  · exact (key q p hpq h2 h1).elim
theorem wpList_exit {P : Program} {N : Sz} {ops : Array Oper} {K K' : Act → World → Prop} {Q : Exit → Act → World → Prop} {o : Oper} {a : Act} {w : World} (hk : ∀ a w, K a w → K' a w) (h : wpListIn (wideR N.ro) 0 P ops (Exit.then K Q) [o] a w) :
    wpListIn (wideR N.ro) 0 P ops (Exit.then K' Q) [o] a w := by
  unfold wpListIn at h ⊢
  split at h
  · rename_i hwant
    rw [if_pos hwant]
    refine Oper.wpIn_exits (fun e a w hne q => ?_) (Oper.wpIn_mono (fun a' w' hh => hk _ _ hh) h)
    cases e <;> first | exact absurd rfl hne | exact q
  · rename_i hwant
    rw [if_neg hwant]
    exact ⟨fun _ _ => trivial, hk _ _ h.2⟩
theorem fm_congr {α β : Type} {f g : α → Option β} : ∀ {l : List α}, (∀ y ∈ l, g y = f y) → l.filterMap g = l.filterMap f := by
  intro l
  induction l with
  | nil => intro _; rfl
  | cons x l ih =>
    intro h
    simp only [List.filterMap_cons, h x List.mem_cons_self, ih fun y hy => h y (List.mem_cons_of_mem _ hy)]
theorem fm_add {α β : Type} {f g : α → Option β} {x : α} {b : β} : ∀ {l : List α}, l.Nodup → x ∈ l → f x = none → g x = some b → (∀ y ∈ l, y ≠ x → g y = f y) → (l.filterMap g).Perm (b :: l.filterMap f) := by
  intro l
  induction l with
  | nil => intro _ h; cases h
  | cons y l ih =>
    intro hn hx hf hg he
    rw [List.nodup_cons] at hn
    by_cases hyx : y = x
    · subst hyx
      simp only [List.filterMap_cons, hf, hg]
      rw [fm_congr fun z hz => he z (List.mem_cons_of_mem _ hz) (fun h => hn.1 (h ▸ hz))]
    · have hx' : x ∈ l := by
        cases hx with
        | head => exact absurd rfl hyx
        | tail _ h => exact h
      have := ih hn.2 hx' hf hg fun z hz => he z (List.mem_cons_of_mem _ hz)
      simp only [List.filterMap_cons, he y List.mem_cons_self hyx]
      cases f y with
      | none => exact this
      | some c => exact (this.cons c).trans (List.Perm.swap _ _ _)
theorem fm_swap {α β : Type} {f g : α → Option β} {x : α} {b b' : β} : ∀ {l : List α}, l.Nodup → x ∈ l → f x = some b → g x = some b' → (∀ y ∈ l, y ≠ x → g y = f y) →
    ∃ r, (l.filterMap f).Perm (b :: r) ∧ (l.filterMap g).Perm (b' :: r) := by
  intro l
  induction l with
  | nil => intro _ h; cases h
  | cons y l ih =>
    intro hn hx hf hg he
    rw [List.nodup_cons] at hn
    by_cases hyx : y = x
    · subst hyx
      simp only [List.filterMap_cons, hf, hg]
      rw [fm_congr fun z hz => he z (List.mem_cons_of_mem _ hz) (fun h => hn.1 (h ▸ hz))]
      exact ⟨_, List.Perm.refl _, List.Perm.refl _⟩
    · have hx' : x ∈ l := by
        cases hx with
        | head => exact absurd rfl hyx
        | tail _ h => exact h
      obtain ⟨r, h1, h2⟩ := ih hn.2 hx' hf hg fun z hz => he z (List.mem_cons_of_mem _ hz)
      simp only [List.filterMap_cons, he y List.mem_cons_self hyx]
      cases f y with
      | none => exact ⟨r, h1, h2⟩
      | some c => exact ⟨c :: r, (h1.cons c).trans (List.Perm.swap _ _ _), (h2.cons c).trans (List.Perm.swap _ _ _)⟩
/-- how far the region has come -/
def Ahead (KS : List Kn) (es : List Nat) (Ls : Nat → List HP) (w0 : World) (listed : Array Bool) (a : Act) (w : World) : Prop :=
  ∃ p vals, p ≤ es.length ∧ (∀ q e, es[q]? = some e → (listed.getD e false = true ↔ q < p)) ∧ Come vals KS (fun i => listed.getD i false = true) a ∧
    Own w0 w (KS.filterMap (Kn.hp (fun i => listed.getD i false) vals) ++ Ls p)
theorem phase_ok {n p : Nat} {listed : Array Bool} (h3 : ∀ q e, es[q]? = some e → (listed.getD e false = true ↔ q < p)) {i : Nat} (inv : HeadInv .any ops n listed) (hl : listed.getD i false = false)
    {o : Oper} (ho : ops[i]? = some o) (hdeps : ∀ e ∈ o.after, Region.binds .any e = true → listed.getD e.on false = true) : phOK ops es i p = true := by
  simp only [phOK, Bool.and_eq_true]
  refine ⟨List.all_eq_true.2 fun e he => ?_, List.all_eq_true.2 fun e he => ?_⟩
  · obtain ⟨q, hq⟩ := List.getElem?_of_mem he
    rw [List.getElem?_take] at hq
    split at hq
    · rename_i hqp
      have hle := (h3 q e hq).2 hqp
      cases hc : (Nat.beq i e || onB ops e i) with
      | false => rfl
      | true =>
        exfalso
        simp only [Bool.or_eq_true] at hc
        rcases hc with hc | hc
        · rw [← Nat.eq_of_beq_eq_true hc, hl] at hle; cases hle
        · obtain ⟨o', ho', hd⟩ := onB_spec hc
          obtain ⟨x, hx, h4, h5⟩ := depsOf_spec hd
          have := inv.closed e o' ho' hle x hx h5
          rw [h4, hl] at this; cases this
    · cases hq
  · obtain ⟨q, hq⟩ := List.getElem?_of_mem he
    rw [List.getElem?_drop] at hq
    cases hc : onB ops i e with
    | false => rfl
    | true =>
      exfalso
      obtain ⟨o', ho', hd⟩ := onB_spec hc
      rw [ho] at ho'
      cases ho'
      obtain ⟨x, hx, h4, h5⟩ := depsOf_spec hd
      have h6 := hdeps x hx h5
      rw [h4] at h6
      have := (h3 _ e hq).1 h6
      omega
theorem phase_next {p : Nat} {listed : Array Bool} (h1 : p ≤ es.length) (h3 : ∀ q e, es[q]? = some e → (listed.getD e false = true ↔ q < p)) {i : Nat} (hi : i < listed.size) (hl : listed.getD i false = false) (hb : backB ops = true) (hes : esB ops es = true)
    {o : Oper} (ho : ops[i]? = some o) (hdeps : ∀ e ∈ o.after, Region.binds .any e = true → listed.getD e.on false = true) :
    nextP es i p ≤ es.length ∧ ∀ q e, es[q]? = some e → ((listed.setIfInBounds i true).getD e false = true ↔ q < nextP es i p) := by
  cases hc : es.contains i with
  | false =>
    simp only [nextP, hc, cond_false]
    refine ⟨h1, fun q e hq => ?_⟩
    have hne : i ≠ e := by
      rintro rfl
      have := List.mem_of_getElem? hq
      simp at hc
      exact hc this
    rw [getD_set_ne false hne]
    exact h3 q e hq
  | true =>
    simp only [nextP, hc, cond_true]
    have hmem : i ∈ es := by simpa using hc
    obtain ⟨q, hq⟩ := List.getElem?_of_mem hmem
    have hp : p = q := by
      have h4 : ¬ q < p := fun h => by rw [(h3 q i hq).2 h] at hl; cases hl
      rcases Nat.lt_or_ge p q with hpq | hpq
      · exfalso
        have hpl : p < es.length := by
          have := (List.getElem?_eq_some_iff.1 hq).1
          omega
        have hpe : es[p]? = some es[p] := List.getElem?_eq_getElem hpl
        obtain ⟨o', ho', hd⟩ := onB_spec (esB_spec hes p q es[p] i hpq hpe hq)
        rw [ho] at ho'
        cases ho'
        obtain ⟨x, hx, h5, h6⟩ := depsOf_spec hd
        have h7 := hdeps x hx h6
        rw [h5] at h7
        have := (h3 p es[p] hpe).1 h7
        omega
      · omega
    subst hp
    refine ⟨(List.getElem?_eq_some_iff.1 hq).1, fun q' e hq' => ?_⟩
    by_cases hie : i = e
    · subst hie
      have := es_inj hb hes hq hq'
      subst this
      simp [hi]
    · rw [getD_set_ne false hie, h3 q' e hq']
      have : q' ≠ p := by rintro rfl; rw [hq] at hq'; cases hq'; exact hie rfl
      omega
theorem AtOp.perm {N : Sz} {w0 : World} {kn : Kn} {M M' : List HP} {a : Act} {w : World} (h : AtOp N w0 kn M a w) (hp : M.Perm M') : AtOp N w0 kn M' a w := by
  obtain ⟨h1, h2⟩ := h
  refine ⟨h1, ?_⟩
  cases kn with
  | det i d c => exact ⟨h2.1, h2.2.perm hp⟩
  | nd i d s A A' => obtain ⟨v, h3, h4⟩ := h2; exact ⟨v, h3, h4.perm (hp.cons _)⟩
theorem hp_other {l l' : Nat → Bool} {vals vals' : Nat → Value} {i : Nat} {k : Kn} (hl : ∀ j, j ≠ i → l' j = l j) (hv : ∀ j, j ≠ i → vals' j = vals j) (hk : k.i ≠ i) (hs : k.s ≠ some i) : k.hp l' vals' = k.hp l vals := by
  cases k with
  | det => rfl
  | nd j d s A A' =>
    have hj : j ≠ i := hk
    simp only [Kn.hp, hl j hj, hv j hj]
    cases s with
    | none => rfl
    | some s =>
      have : s ≠ i := fun h => hs (by rw [← h]; rfl)
      simp only [hl s this]
/-- one more operation is done -/
theorem Ahead.next {KS ks' : List Kn} {listed : Array Bool} {a a' : Act} {w' : World} {vals : Nat → Value} {p' i : Nat} {o : Oper} {kn : Kn} (hN : KS.Nodup) (hU : ∀ k1 ∈ KS, ∀ k2 ∈ KS, k1.i = k2.i → k1 = k2) (hS : ∀ k ∈ KS, SOk ops n k)
    (inv : HeadInv .any ops n listed) (hi : i < listed.size) (hl : listed.getD i false = false) (ho : ops[i]? = some o) (hin : i < n) (hfresh : freshB (ops.toList.take n) = true)
    (hki : kn.i = i) (hkm : kn ∈ KS) (hkd : kn.d = o.dst) (hdst : ∀ k ∈ KS, k.i < n ∧ ∀ ok, ops[k.i]? = some ok → k.d = ok.dst) (hearly : ∀ k ∈ KS, k.i < i → k ∈ ks') (hno : ∀ k' ∈ ks', k'.s ≠ some i)
    (hC : Come vals KS (fun j => listed.getD j false = true) a) (hp1 : p' ≤ es.length) (hp2 : ∀ q e, es[q]? = some e → ((listed.setIfInBounds i true).getD e false = true ↔ q < p'))
    (hat : AtOp N w0 kn (KS.filterMap (Kn.hp (fun j => listed.getD j false) vals) ++ Ls p') a' w') (ht : ∃ v, a'.tmps = (a.put o.dst v).tmps) : Ahead KS es Ls w0 (listed.setIfInBounds i true) a' w' := by
  have hll : ∀ j, j ≠ i → (listed.setIfInBounds i true).getD j false = listed.getD j false := fun j hj => getD_set_ne false (fun h => hj h.symm)
  have hli : (listed.setIfInBounds i true).getD i false = true := by simp [hi]
  have hns : ∀ k ∈ KS, k.s ≠ some i := by
    intro k hk hs
    have := (hS k hk i hs).1
    exact hno k (hearly k hk this) hs
  obtain ⟨u, ht⟩ := ht
  have hother : ∀ t, o.dst ≠ some t → a'.tmps[t]? = a.tmps[t]? := by
    intro t hne
    rw [ht]
    cases hod : o.dst with
    | none => rfl
    | some d => simp only [Act.put]; rw [Array.getElem?_setIfInBounds_ne]; intro h; subst h; exact hne hod
  have hpo : (ops.toList.take n)[i]? = some o := by simp [hin, ho]
  have hslot : ∀ (vals' : Nat → Value), (∀ j, j ≠ i → vals' j = vals j) → (∀ d, kn.d = some d → a'.tmps[d]? = some (kn.val vals')) → Come vals' KS (fun j => (listed.setIfInBounds i true).getD j false = true) a' := by
    intro vals' hv hkv k hk hS' d' hd'
    by_cases hki' : k.i = i
    · have := hU k hk kn hkm (by omega)
      subst this
      exact hkv d' hd'
    · have hS2 : listed.getD k.i false = true := by rw [← hll k.i hki']; exact hS'
      have h1 := hC k hk hS2 d' hd'
      have hval : k.val vals' = k.val vals := by
        cases k with
        | det => rfl
        | nd j d s A A' => exact hv j hki'
      rw [hval, hother d' (fun hdt => ?_)]
      · exact h1
      · obtain ⟨hkn, hkd'⟩ := hdst k hk
        obtain ⟨ok, hok⟩ : ∃ ok, ops[k.i]? = some ok := by
          have := inv.size
          have hlt : k.i < listed.size := by
            rcases Nat.lt_or_ge k.i listed.size with h | h
            · exact h
            · simp [Array.getElem?_eq_none h] at hS2
          exact ⟨_, Array.getElem?_eq_getElem (by omega)⟩
        have hpk : (ops.toList.take n)[k.i]? = some ok := by simp [hkn, hok]
        exact (freshB_spec hfresh i o d' hpo hdt) k.i ok hki' hpk (by rw [← hkd' ok hok]; exact hd')
  cases kn with
  | det i' d c =>
    have hki' : i' = i := hki
    subst hki'
    obtain ⟨_, h2, h3⟩ := hat
    refine ⟨p', vals, hp1, hp2, hslot vals (fun _ _ => rfl) h2, ?_⟩
    rw [fm_congr (f := Kn.hp (fun j => listed.getD j false) vals)]
    · exact h3
    · intro k hk
      by_cases hki' : k.i = i'
      · have := hU k hk _ hkm hki'
        subst this
        rfl
      · exact hp_other (i := i') hll (fun _ _ => rfl) hki' (hns k hk)
  | nd i' d s A A' =>
    have hki' : i' = i := hki
    subst hki'
    obtain ⟨_, v, h2, h3⟩ := hat
    have hvv : ∀ j, j ≠ i' → (fun j => if j = i' then v else vals j) j = vals j := fun j hj => by simp [hj]
    refine ⟨p', fun j => if j = i' then v else vals j, hp1, hp2, hslot _ hvv (fun d' hd' => by cases hd'; simpa [Kn.val] using h2), ?_⟩
    have hperm := fm_add (f := Kn.hp (fun j => listed.getD j false) vals) (g := Kn.hp (fun j => (listed.setIfInBounds i' true).getD j false) (fun j => if j = i' then v else vals j)) (x := Kn.nd i' d s A A') (b := A v) hN hkm
      (by simp only [Kn.hp, hl, cond_false]) (by
        simp only [Kn.hp, hli, cond_true, if_true]
        have hsl : ∀ s', s = some s' → (listed.setIfInBounds i' true).getD s' false = false := by
          rintro s rfl
          obtain ⟨hlt, hsn, hon⟩ := hS _ hkm s rfl
          have hlt' : i' < s := hlt
          rw [hll s (by omega)]
          cases hc : listed.getD s false with
          | false => rfl
          | true =>
            exfalso
            obtain ⟨os, hos, hd⟩ := onB_spec hon
            obtain ⟨x, hx, h4, h5⟩ := depsOf_spec hd
            have h6 := inv.closed s os hos hc x hx h5
            have h7 : x.on = i' := h4
            rw [h7, hl] at h6; cases h6
        clear hslot hki hkd
        cases s with
        | none => rfl
        | some s' => simp only [hsl s' rfl, cond_false])
      (by
        intro y hy hne
        have hyi : y.i ≠ i' := fun h => hne (hU y hy _ hkm h)
        exact hp_other (i := i') hll hvv hyi (hns y hy))
    refine h3.perm ?_
    have h5 := hperm.symm.append_right (Ls p')
    exact h5
theorem Ahead.step {KS ks' : List Kn} {listed : Array Bool} {a : Act} {w : World} {i : Nat} {o : Oper} {kn : Kn} {dep : Option Kn} (HA : Ahead KS es Ls w0 listed a w) (hN : KS.Nodup) (hU : ∀ k1 ∈ KS, ∀ k2 ∈ KS, k1.i = k2.i → k1 = k2) (hS : ∀ k ∈ KS, SOk ops n k)
    (hb : backB ops = true) (hes : esB ops es = true) (inv : HeadInv .any ops n listed) (hi : i < listed.size) (hl : listed.getD i false = false) (ho : ops[i]? = some o) (hdeps : ∀ e ∈ o.after, Region.binds .any e = true → listed.getD e.on false = true)
    (hin : i < n) (hfresh : freshB (ops.toList.take n) = true) (hki : kn.i = i) (hkm : kn ∈ KS) (hkd : kn.d = o.dst) (hdst : ∀ k ∈ KS, k.i < n ∧ ∀ ok, ops[k.i]? = some ok → k.d = ok.dst) (hks : ∀ k ∈ ks', k ∈ KS) (hearly : ∀ k ∈ KS, k.i < i → k ∈ ks')
    {fr : Fr} (Hf : Has N fr a) (hob : Ob P N ops Q es Ls w0 o i kn ks' fr dep) :
    ∃ Post : Act → World → Prop, wpListIn (wideR N.ro) 0 P ops (Exit.then Post Q) [o] a w ∧ ∀ a' w', Post a' w' → (∃ v, a'.tmps = (a.put o.dst v).tmps) → a'.defers = N.marks ∧ Ahead KS es Ls w0 (listed.setIfInBounds i true) a' w' := by
  obtain ⟨p, vals, h1, h3, hC, hO⟩ := HA
  have hph := phase_ok h3 inv hl ho hdeps
  obtain ⟨hn1, hn2⟩ := phase_next h1 h3 hi hl hb hes ho hdeps
  have Hfr : Has N (frDet (depsOf o.after) ks' fr) a := frDet_has Hf (vals := vals) fun k hk hj d hd => hC k (hks k hk) (by
    obtain ⟨x, hx, h4, h5⟩ := depsOf_spec hj
    have := hdeps x hx h5
    rwa [h4] at this) d hd
  have plain : ∀ (hno : ∀ k' ∈ ks', k'.s ≠ some i) a' w', AtOp N w0 kn (KS.filterMap (Kn.hp (fun j => listed.getD j false) vals) ++ Ls (nextP es i p)) a' w' → (∃ v, a'.tmps = (a.put o.dst v).tmps) →
      a'.defers = N.marks ∧ Ahead KS es Ls w0 (listed.setIfInBounds i true) a' w' := fun hno a' w' hat ht =>
    ⟨hat.1, Ahead.next hN hU hS inv hi hl ho hin hfresh hki hkm hkd hdst hearly hno hC hn1 hn2 hat ht⟩
  have first : ((∀ k' ∈ ks', k'.s ≠ some i) ∧ ∀ p a w X, p ≤ es.length → phOK ops es i p = true → Own w0 w (X ++ Ls p) → Has N (frDet (depsOf o.after) ks' fr) a →
        wpListIn (wideR N.ro) 0 P ops (Exit.then (AtOp N w0 kn (X ++ Ls (nextP es i p))) Q) [o] a w) → ∃ Post : Act → World → Prop, wpListIn (wideR N.ro) 0 P ops (Exit.then Post Q) [o] a w ∧ ∀ a' w', Post a' w' → (∃ v, a'.tmps = (a.put o.dst v).tmps) →
          a'.defers = N.marks ∧ Ahead KS es Ls w0 (listed.setIfInBounds i true) a' w' := fun h => ⟨_, h.2 p a w _ h1 hph hO Hfr, plain h.1⟩
  cases dep with
  | none => exact first hob
  | some k0 =>
    cases k0 with
    | det => exact first hob
    | nd k d s A A' =>
      obtain ⟨hk0, hkdep, hs, huniq, hob⟩ := hob
      have hk0m := hks _ hk0
      have hkl : listed.getD k false = true := by
        obtain ⟨x, hx, h4, h5⟩ := depsOf_spec hkdep
        have := hdeps x hx h5
        rwa [h4] at this
      have hslot : a.tmps[d]? = some (vals k) := hC _ hk0m hkl d rfl
      have hcur : Kn.hp (fun j => listed.getD j false) vals (.nd k d s A A') = some (A (vals k)) := by
        simp only [Kn.hp, hkl, cond_true]
        rcases hs with rfl | ⟨rfl, _⟩
        · rfl
        · simp only [hl, cond_false]
      rcases hs with rfl | ⟨rfl, c, rfl⟩
      · obtain ⟨r, hr1, _⟩ := fm_swap (f := Kn.hp (fun j => listed.getD j false) vals) (g := Kn.hp (fun j => listed.getD j false) vals) hN hk0m hcur hcur (fun _ _ _ => rfl)
        have hO' : Own w0 w (A (vals k) :: (r ++ Ls p)) := hO.perm (hr1.append_right _)
        have hw := hob p a w r (vals k) h1 hph hO' Hfr hslot
        refine ⟨_, hw, fun a' w' hat ht => plain (fun k' hk' hs' => ?_) a' w' (hat.perm ?_) ht⟩
        · have := huniq k' hk' hs'
          subst this
          cases hs'
        · simp only [reduceCtorEq, if_false]
          exact (hr1.append_right _).symm
      · obtain ⟨r, hr1, hr2⟩ := fm_swap (f := Kn.hp (fun j => listed.getD j false) vals) (g := Kn.hp (fun j => (listed.setIfInBounds i true).getD j false) vals) (b' := A' (vals k)) hN hk0m hcur (by
            have hki' : k ≠ i := by rintro rfl; rw [hl] at hkl; cases hkl
            have h6 : (listed.setIfInBounds i true).getD k false = true := by rw [getD_set_ne false (fun h => hki' h.symm)]; exact hkl
            have h7 : (listed.setIfInBounds i true).getD i false = true := by simp [hi]
            simp only [Kn.hp, h6, h7, cond_true]) (by
            intro y hy hne
            by_cases hyi : y.i = i
            · have := hU y hy _ hkm (by rw [hyi]; exact hki.symm)
              subst this
              rfl
            · refine hp_other (i := i) (fun j hj => getD_set_ne false (fun h => hj h.symm)) (fun _ _ => rfl) hyi (fun hs' => ?_)
              have := (hS y hy i hs').1
              exact hne (huniq y (hearly y hy this) hs'))
        have hO' : Own w0 w (A (vals k) :: (r ++ Ls p)) := hO.perm (hr1.append_right _)
        have hw := hob p a w r (vals k) h1 hph hO' Hfr hslot
        refine ⟨_, hw, fun a' w' hat ht => ⟨hat.1, nextP es i p, vals, hn1, hn2, ?_, ?_⟩⟩
        · intro k' hk' hl' d' hd'
          obtain ⟨u, ht⟩ := ht
          have hod : o.dst = none := hkd.symm
          rw [hod] at ht
          by_cases hki' : k'.i = i
          · have := hU k' hk' _ hkm (by rw [hki']; exact hki.symm)
            subst this
            cases hd'
          · have hl2 : listed.getD k'.i false = true := by
              have hl3 : (listed.setIfInBounds i true).getD k'.i false = true := hl'
              rwa [getD_set_ne false (fun h => hki' h.symm)] at hl3
            rw [ht]
            exact hC k' hk' hl2 d' hd'
        · have h2 : Own w0 w' ((if some i = some i then A' (vals k) else A (vals k)) :: (r ++ Ls (nextP es i p))) := hat.2.2
          simp only [if_true] at h2
          exact h2.perm (hr2.append_right _).symm
def Kn.fin (vals : Nat → Value) : Kn → Option HP
  | .det _ _ _ => none
  | .nd i _ s A A' => some ((bif s.isSome then A' else A) (vals i))
theorem frFin_has {a : Act} {vals : Nat → Value} {k : Fr → List HP → Prop} : ∀ {ks : List Kn} {fr : Fr} {M : List HP}, Has N fr a → Come vals ks (fun _ => True) a → frFin ks fr M k →
    ∃ fr' M', Has N fr' a ∧ k fr' M' ∧ M'.Perm (ks.filterMap (Kn.fin vals) ++ M) := by
  intro ks
  induction ks with
  | nil => intro fr M H _ h; exact ⟨fr, M, H, h, List.Perm.refl _⟩
  | cons kn ks ih =>
    intro fr M H hc h
    have hc' : Come vals ks (fun _ => True) a := fun kn h => hc kn (List.mem_cons_of_mem _ h)
    cases kn with
    | det i d c =>
      cases d with
      | none => exact ih H hc' h
      | some d => exact ih (H.more (hc _ List.mem_cons_self trivial d rfl)) hc' h
    | nd i d s A A' =>
      obtain ⟨fr', M', h1, h2, h3⟩ := ih (H.more (hc _ List.mem_cons_self trivial d rfl)) hc' (h (vals i))
      refine ⟨fr', M', h1, h2, h3.trans ?_⟩
      simp only [List.filterMap_cons, Kn.fin]
      exact List.perm_middle
def pre (ops : Array Oper) (n : Nat) : Array Bool := Array.replicate n true ++ Array.replicate (ops.size - n) false
theorem draw_any {fr0 : Fr} {m : Nat} {KS : List Kn} (hmn : m ≤ n) (hes : esB ops es = true) (hesn : ∀ e ∈ es, e < n) (hback : backB ops = true) (hn : n ≤ ops.size) (hwait : ∀ listed, HeadInv .any ops n listed → ∀ i, i < n → listed.getD i true = false → (∀ j, j < m → listed.getD j false = true) → ∀ t, n ≤ t → t ∉ Region.ready .any ops listed)
    (hZ : ∀ fr a w, Has N fr a → Z fr w → wpAnyIn (wideR N.ro) 0 P .any ops Q (ops.size - n) (pre ops n) a w) (hfresh : freshB (ops.toList.take n) = true)
    (hN : KS.Nodup) (hU : ∀ k1 ∈ KS, ∀ k2 ∈ KS, k1.i = k2.i → k1 = k2) (hS : ∀ k ∈ KS, SOk ops n k) (hlt : ∀ kn ∈ KS, kn.i < n)
    (hfin : ∀ w, frFin KS (frAtM ops m n fr0 n) (Ls es.length) fun fr M => Own w0 w M → Z fr w)
    (hop : ∀ (p : Nat) (o : Oper), m ≤ p → p < n → ops[p]? = some o → ∃ kn dep ks', kn.i = p ∧ kn ∈ KS ∧ kn.d = o.dst ∧ (∀ k ∈ ks', k ∈ KS) ∧ (∀ k ∈ KS, k.i < p → k ∈ ks') ∧ Ob P N ops Q es Ls w0 o p kn ks' (frAtM ops m n fr0 p) dep) (hge : ∀ kn ∈ KS, m ≤ kn.i) :
    ∀ (fuel : Nat) (listed : Array Bool) (a : Act) (w : World), listed.toList.count false = fuel → HeadInv .any ops n listed → (∀ j, j < m → listed.getD j false = true) → Old N ops m n fr0 listed a → Ahead KS es Ls w0 listed a w → wpAnyIn (wideR N.ro) 0 P .any ops Q fuel listed a w := by
  have hdone : ∀ (fuel : Nat) (listed : Array Bool) (a : Act) (w : World), listed.toList.count false = fuel → HeadInv .any ops n listed → Old N ops m n fr0 listed a → Ahead KS es Ls w0 listed a w →
      (∀ i, i < n → listed.getD i false = true) → wpAnyIn (wideR N.ro) 0 P .any ops Q fuel listed a w := by
    intro fuel listed a w hcount inv H hA hall
    have hl : listed = Array.replicate n true ++ Array.replicate (ops.size - n) false := by
      apply Array.ext
      · simp [inv.size]; omega
      · intro i h1 h2
        by_cases hi : i < n
        · have := hall i hi
          rw [Array.getElem_append_left (by simpa using hi)]
          simp [h1] at this ⊢
          exact this
        · have := inv.tail i (by omega) (by rw [← inv.size]; exact h1)
          rw [Array.getElem_append_right (by simp; omega)]
          simp [h1] at this ⊢
          exact this
    have hf : fuel = ops.size - n := by
      rw [← hcount, hl]
      simp [List.count_append, List.count_replicate]
    obtain ⟨p, vals, h1, h3, hC, hO⟩ := hA
    have hp : p = es.length := by
      rcases Nat.lt_or_ge p es.length with h | h
      · have hpe : es[p]? = some es[p] := List.getElem?_eq_getElem h
        have := (h3 p _ hpe).1 (hall _ (hesn _ (List.getElem_mem h)))
        omega
      · omega
    subst hp
    obtain ⟨fr', M', hf1, hf2, hf3⟩ := frFin_has (H.atEnd hback) (vals := vals) (fun kn hk _ d hd => hC kn hk (hall _ (hlt kn hk)) d hd) (hfin w)
    have hj := hf2 (by
      refine hO.perm (List.Perm.trans ?_ hf3.symm)
      rw [fm_congr (f := Kn.fin vals)]
      intro k hk
      cases k with
      | det => rfl
      | nd i d s A A' =>
        have hi : i < n := hlt _ hk
        simp only [Kn.hp, Kn.fin, hall i hi, cond_true]
        cases s with
        | none => rfl
        | some s =>
          have := (hS _ hk s rfl).2.1
          simp only [hall s this, Option.isSome_some])
    rw [hf, hl]
    exact hZ _ _ _ hf1 hj
  intro fuel
  induction fuel with
  | zero =>
    intro listed a w hcount inv hm0 H hA
    refine hdone 0 listed a w hcount inv H hA (fun i hi => ?_)
    have h0 := List.count_eq_zero.1 hcount
    have hsz : i < listed.size := by rw [inv.size]; omega
    cases hc : listed.getD i false with
    | true => rfl
    | false =>
      exfalso
      apply h0
      simp [hsz] at hc
      rw [← hc]
      exact Array.mem_toList_iff.2 (Array.getElem_mem hsz)
  | succ fuel ih =>
    intro listed a w hcount inv hm0 H hA
    by_cases hall : ∀ i, i < n → listed.getD i false = true
    · exact hdone _ listed a w hcount inv H hA hall
    · have ⟨mm, hm, hml⟩ : ∃ m, m < n ∧ listed.getD m false = false := by
        refine Classical.byContradiction fun hno => hall fun i hi => ?_
        cases hc : listed.getD i false with
        | true => rfl
        | false => exact absurd ⟨i, hi, hc⟩ hno
      obtain ⟨i0, hi0, hl0, hmin⟩ := least_unlisted mm hm hml
      have hlsz : i0 < listed.size := by rw [inv.size]; omega
      refine ⟨fun hr => ?_, fun i hi => ?_⟩
      · exfalso
        have : i0 ∈ Region.ready .any ops listed := by
          have ho : ops[i0]? = some (ops[i0]'(by omega)) := Array.getElem?_eq_getElem _
          exact mem_ready.2 ⟨getD_in hlsz hl0, _, ho, fun e he hb => hmin _ (backB_spec hback ho he hb)⟩
        rw [hr] at this
        cases this
      · have hin : i < n := by
          rcases Nat.lt_or_ge i n with h | h
          · exact h
          · exfalso
            exact hwait listed inv i0 hi0 (getD_in hlsz hl0) hm0 i h hi
        obtain ⟨hun, o, ho, hdeps⟩ := mem_ready.1 hi
        have hlisted : listed.getD i false = false := getD_both hun
        have him : m ≤ i := by
          rcases Nat.lt_or_ge i m with h | h
          · rw [hm0 i h] at hlisted; cases hlisted
          · exact h
        obtain ⟨kn, dep, ks', hki, hkm, hkd, hks, hearly, hob⟩ := hop i o him hin ho
        have hisz : i < listed.size := by rw [inv.size]; omega
        have hdst : ∀ k ∈ KS, k.i < n ∧ ∀ ok, ops[k.i]? = some ok → k.d = ok.dst := by
          intro k hk
          refine ⟨hlt k hk, fun ok hok => ?_⟩
          obtain ⟨kk, _, _, hkk1, hkk2, hkk3, _⟩ := hop k.i ok (hge k hk) (hlt k hk) hok
          have := hU kk hkk2 k hk hkk1
          subst this
          exact hkk3
        obtain ⟨Post, hw, hpost⟩ := hA.step hN hU hS hback hes inv hisz hlisted ho hdeps hin hfresh hki hkm hkd hdst hks hearly (H.at inv hlisted) hob
        have hnext : ∀ a' w', Post a' w' → (∃ v, a'.tmps = (a.put o.dst v).tmps) → wpAnyIn (wideR N.ro) 0 P .any ops Q fuel (listed.setIfInBounds i true) a' w' := by
          rintro a' w' hp ⟨v, ht⟩
          obtain ⟨hdf, hA'⟩ := hpost a' w' hp ⟨v, ht⟩
          have hother : ∀ t, o.dst ≠ some t → a'.tmps[t]? = a.tmps[t]? := by
            intro t hne
            rw [ht]
            cases hod : o.dst with
            | none => rfl
            | some d => simp only [Act.put]; rw [Array.getElem?_setIfInBounds_ne]; intro h; subst h; exact hne hod
          refine ih _ a' w' ?_ (inv.set hi hin) (fun j hj => by rw [getD_set_ne false (by omega)]; exact hm0 j hj) ⟨?_, hdf, fun t u e hn' => ?_⟩ hA'
          · have : (listed.setIfInBounds i true).toList = listed.toList.set i true := by simp
            rw [this, List.count_set (by simpa using hisz)]
            simp [hisz] at hlisted
            simp [hlisted]
            simp at hcount
            omega
          · rw [ht]; cases o.dst <;> simp [Act.put, H.size]
          · rw [hother t (fun hdt => ?_)]
            · refine H.get t u e fun j oj hmj hj hoj hdj => ?_
              have := hn' j oj hmj hj hoj hdj
              by_cases hji : j = i
              · subst hji; exact hlisted
              · rwa [getD_set_ne false (fun h => hji h.symm)] at this
            · have := hn' i o him hin ho hdt
              simp [hisz] at this
        unfold wpOpIn
        rw [ho]
        simp only
        unfold wpListIn at hw
        split at hw
        · rename_i hwant
          rw [if_pos hwant]
          refine Oper.wpIn_exits (fun e a w hne q => ?_) (Oper.wpIn_mono (fun a' w' hh => hnext a' w' hh.1 hh.2) (Oper.wpIn_tmps hw))
          cases e <;> first | exact absurd rfl hne | exact q
        · rename_i hwant
          rw [if_neg hwant]
          exact ⟨fun _ _ => trivial, hnext _ _ hw.2 ⟨undef, rfl⟩⟩

/-- A region that draws its order: each of its first n operations by itself; behind them the others, in the order of the text. es: the operations among the first n that write to what is ours already. -/
theorem pre_lt {n j : Nat} (h : j < n) (d : Bool) : (pre ops n).getD j d = true := by
  simp only [pre]
  rw [Array.getD_eq_getD_getElem?, Array.getElem?_append_left (by simpa using h), Array.getElem?_replicate, if_pos h]
  rfl
theorem pre_ge {n j : Nat} (h : n ≤ j) : (pre ops n).getD j false = false := by
  simp only [pre]
  rw [Array.getD_eq_getD_getElem?, Array.getElem?_append_right (by simpa using h), Array.getElem?_replicate]
  split <;> rfl
theorem pre_inv {n : Nat} (hn : n ≤ ops.size) (hback : backB ops = true) : HeadInv .any ops n (pre ops n) := by
  refine ⟨by simp [pre]; omega, fun j oj hoj hl e he hb => ?_, fun t ht ht' => ?_⟩
  · have hj : j < n := by
      rcases Nat.lt_or_ge j n with h | h
      · exact h
      · rw [pre_ge h] at hl; cases hl
    have := backB_spec hback hoj he hb
    exact pre_lt (by omega) _
  · simp only [pre]
    rw [Array.getD_eq_getD_getElem?, Array.getElem?_append_right (by simpa using ht), Array.getElem?_replicate, if_pos (by simp; omega)]
    rfl
theorem pre_count {n : Nat} (hn : n ≤ ops.size) : (pre ops n).toList.count false = ops.size - n := by
  simp [pre, List.count_append, List.count_replicate]
/-- a segment of a region, from m to n, in whatever order -/
theorem draw_seg {fr0 : Fr} {m : Nat} {a : Act} {w : World} {L : List HP} (hmn : m ≤ n) (hback : backB ops = true) (hn : n ≤ ops.size) (hes : esB ops es = true) (hesn : ∀ e ∈ es, m ≤ e ∧ e < n)
    (hwait : ∀ listed, HeadInv .any ops n listed → ∀ i, i < n → listed.getD i true = false → (∀ j, j < m → listed.getD j false = true) → ∀ t, n ≤ t → t ∉ Region.ready .any ops listed)
    (hZ : ∀ fr a w, Has N fr a → Z fr w → wpAnyIn (wideR N.ro) 0 P .any ops Q (ops.size - n) (pre ops n) a w) (hF : freshB (ops.toList.take n) = true) (H : Own w0 w L) (h0 : Ls 0 = L) (Ha : Has N fr0 a)
    (k : JD P N ops Q n es Ls w0 (frAtM ops m n fr0) Z ((ops.toList.take n).drop m) m []) : wpAnyIn (wideR N.ro) 0 P .any ops Q (ops.size - m) (pre ops m) a w := by
  obtain ⟨KS, _, g2, g3, g4, g5, g6, g7⟩ := k.spread (by simp) List.nodup_nil (by simp) (by simp)
  have hl : ((ops.toList.take n).drop m).length = n - m := by simp; omega
  have hrng : ∀ kn ∈ KS, m ≤ kn.i ∧ kn.i < n := by
    intro kn hk
    rcases g6 kn hk with h | h
    · cases h
    · omega
  have hnil : KS.filterMap (Kn.hp (fun i => (pre ops m).getD i false) fun _ => undef) = [] := by
    rw [List.filterMap_eq_nil_iff]
    intro k hk
    cases k with
    | det => rfl
    | nd i d s A A' =>
      have : m ≤ i := (hrng _ hk).1
      simp only [Kn.hp, pre_ge this, cond_false]
  refine draw_any (fr0 := fr0) (m := m) (KS := KS) (w0 := w0) (es := es) (Ls := Ls) (Z := Z) hmn hes (fun e he => (hesn e he).2) hback hn hwait hZ hF g2 g3 g4 (fun kn hk => (hrng kn hk).2) g5 (fun p o hmp hp ho => ?_) (fun kn hk => (hrng kn hk).1) (ops.size - m) (pre ops m) a w (pre_count (by omega)) ?_ (fun j hj => pre_lt hj _)
    ⟨Ha.size, Ha.defers, fun t v e _ => Ha.get t v e⟩ ⟨0, fun _ => undef, Nat.zero_le _, fun q e he => ?_, ?_, ?_⟩
  · obtain ⟨kn, dep, ks', h1, h2, h3, h4, h5, h6⟩ := g7 (p - m) o (by rw [List.getElem?_drop, List.getElem?_take, show m + (p - m) = p by omega]; simp [hp, ho])
    rw [show m + (p - m) = p by omega] at h1 h5 h6
    exact ⟨kn, dep, ks', h1, h2, h3, h4, h5, h6⟩
  · have hi := pre_inv (ops := ops) (n := m) (by omega) hback
    exact ⟨hi.size, hi.closed, fun t ht ht' => hi.tail t (by omega) ht'⟩
  · rw [pre_ge (hesn e (List.mem_of_getElem? he)).1]; simp
  · intro kn hk hS d _
    rw [pre_ge (hrng kn hk).1] at hS
    cases hS
  · rw [hnil, h0]; exact H
theorem wpAnyIn_of_seq {F : Fence} {k0 : Nat} {md : Region.Mode} {Q' : Exit → Act → World → Prop} : ∀ (l : List Oper) (k : Nat) (listed : Array Bool) (a : Act) (w : World), (∀ j, l[j]? = ops[k + j]?) →
    Region.seqB md ops l.length k listed = true → wpListIn F k0 P ops Q' l a w → wpAnyIn F k0 P md ops Q' l.length listed a w := by
  intro l
  induction l with
  | nil => intro k listed a w _ hB h; exact ⟨by simpa [Region.seqB] using hB, h⟩
  | cons o l ih =>
    intro k listed a w hl hB h
    have h0 : ops[k]? = some o := by simpa using (hl 0).symm
    simp only [List.length_cons, Region.seqB, Bool.and_eq_true, decide_eq_true_eq] at hB
    refine ⟨fun h1 => (by rw [hB.1] at h1; cases h1), fun i hi => ?_⟩
    rw [hB.1] at hi
    have hik : i = k := by simpa using hi
    subst hik
    have hw : wpOpIn F k0 P ops Q' i (wpListIn F k0 P ops Q' l) a w := by unfold wpOpIn; simp only [h0]; exact h
    exact wpOpIn_mono (fun a' w' h' => ih (i + 1) _ a' w' (fun j => by have := hl (j + 1); simpa [Nat.add_assoc, Nat.add_comm 1 j] using this) hB.2 h') hw
theorem JC.drawE {fr0 : Fr} {id : Nat} {w : World} {L : List HP} (n : Nat) (es : List Nat) (Ls : Nat → List HP) (H : Own w0 w L) (h0 : Ls 0 = L) (hm : P.follows .mixedOrders = true) (hB : (drawB ops n && esB ops es && es.all (fun e => Nat.blt e n)) = true)
    (hF : freshB (ops.toList.take n) = true) (k : JD P N ops Q n es Ls w0 (frAt ops n fr0) (fun fr w => JL P N ops Q (ops.toList.drop n) fr w) (ops.toList.take n) 0 []) : JC P N (.region id ops true) Q fr0 w := by
  intro a Ha
  simp only [Bool.and_eq_true] at hB
  obtain ⟨⟨hB, hes⟩, hen⟩ := hB
  simp only [drawB, Bool.and_eq_true, Bool.or_eq_true, decide_eq_true_eq] at hB
  obtain ⟨⟨⟨hback, hn⟩, ht⟩, hs⟩ := hB
  refine wpIn_region_any hm ?_
  have h := draw_seg (m := 0) (fr0 := fr0) (a := a) (w := w.drew) (L := L) (Z := fun fr w => JL P N ops Q (ops.toList.drop n) fr w) (Nat.zero_le n) hback hn hes (fun e he => ⟨Nat.zero_le _, Nat.lt_of_succ_le (Nat.le_of_ble_eq_true (List.all_eq_true.1 hen e he))⟩)
    (fun listed inv i hi hli _ t ht1 hr => by
      rcases ht with ht | ⟨hs', hc⟩
      · obtain ⟨_, oi, hoi, _⟩ := mem_ready.1 hr
        have := (Array.getElem?_eq_some_iff.1 hoi).1
        omega
      · have hn' : n < ops.size := by
          obtain ⟨_, oi, hoi, _⟩ := mem_ready.1 hr
          have := (Array.getElem?_eq_some_iff.1 hoi).1
          omega
        exact tail_waits hs' hc hn' inv (n - i) i rfl hi hli t ht1 hr)
    (fun fr a w Hf hz => by
      have := wpAnyIn_of_seq (F := wideR N.ro) (k0 := 0) (md := .any) (ops.toList.drop n) n (pre ops n) a w (fun j => by simp [List.getElem?_drop]) (by simpa [pre] using hs) (hz a Hf)
      simpa using this) hF H.drew h0 Ha k
  have e1 : pre ops 0 = Array.replicate ops.size false := by simp [pre]
  rw [e1] at h
  exact h
theorem JC.draw {fr0 : Fr} {id : Nat} {w : World} {L : List HP} (n : Nat) (H : Own w0 w L) (hm : P.follows .mixedOrders = true) (hB : drawB ops n = true) (hF : freshB (ops.toList.take n) = true)
    (k : JD P N ops Q n [] (fun _ => L) w0 (frAt ops n fr0) (fun fr w => JL P N ops Q (ops.toList.drop n) fr w) (ops.toList.take n) 0 []) : JC P N (.region id ops true) Q fr0 w :=
  JC.drawE n [] (fun _ => L) H rfl hm (by rw [hB]; rfl) hF k

/-- a call that only computes (it may make memory): its value is known -/
def Pur (P : Program) (f : FuncId) (args : Array Value) (w : World) (v : Value) : Prop := Calls P f args w fun e w' => e = .returned v ∧ Below w.heap.size w w'

/-! ### the operations of a drawn region, one by one -/
section
variable {d : Option Tmp} {ty : TypeId} {pos : String} {af : Array Edge} {r : List Oper} {i : Nat} {ks : List Kn} {L : List HP}
def neB (es : List Nat) (i : Nat) : Bool := es.all fun e => !Nat.beq i e
theorem neB_spec {es : List Nat} {i : Nat} (h : neB es i = true) : i ∉ es := by
  intro hi
  have := List.all_eq_true.1 h i hi
  simp at this
theorem nextP_ne {es : List Nat} {i p : Nat} (h : neB es i = true) : nextP es i p = p := by
  have := neB_spec h
  have hc : es.contains i = false := by simpa using this
  simp only [nextP, hc, cond_false]
def Kn.isS (i : Nat) : Kn → Bool
  | .nd _ _ (some s) _ _ => Nat.beq s i
  | _ => false
theorem Kn.isS_spec {k : Kn} {i : Nat} : k.isS i = true ↔ k.s = some i := by
  cases k with
  | det => simp [Kn.isS, Kn.s]
  | nd j d s A A' => cases s <;> simp [Kn.isS, Kn.s]
def noS (ks : List Kn) (i : Nat) : Bool := match ks with
  | [] => true
  | k :: r => !k.isS i && noS r i
theorem noS_spec {i : Nat} : ∀ {ks : List Kn}, noS ks i = true → ∀ k ∈ ks, k.s ≠ some i := by
  intro ks
  induction ks with
  | nil => intro _ k h; cases h
  | cons x ks ih =>
    intro h k hk hs
    simp only [noS, Bool.and_eq_true] at h
    cases hk with
    | head => rw [Kn.isS_spec.2 hs] at h; simp at h
    | tail _ hk => exact ih h.2 k hk hs
/-- the one item that operation i writes anew -/
def findS (i : Nat) : List Kn → Option Kn
  | [] => none
  | k :: r => bif k.isS i then (bif noS r i then some k else none) else findS i r
theorem findS_spec {i : Nat} {k0 : Kn} : ∀ {ks : List Kn}, findS i ks = some k0 → k0 ∈ ks ∧ ∀ k ∈ ks, k.s = some i → k = k0 := by
  intro ks
  induction ks with
  | nil => intro h; cases h
  | cons x ks ih =>
    intro h
    simp only [findS] at h
    cases hx : x.isS i with
    | true =>
      rw [hx] at h
      simp only [cond_true] at h
      cases hn : noS ks i with
      | false => rw [hn] at h; cases h
      | true =>
        rw [hn] at h
        cases h
        refine ⟨List.mem_cons_self, fun k hk hs => ?_⟩
        cases hk with
        | head => rfl
        | tail _ hk => exact absurd hs (noS_spec hn k hk)
    | false =>
      rw [hx] at h
      obtain ⟨h1, h2⟩ := ih (by simpa using h)
      refine ⟨List.mem_cons_of_mem _ h1, fun k hk hs => ?_⟩
      cases hk with
      | head => rw [Kn.isS_spec.2 hs] at hx; cases hx
      | tail _ hk => exact h2 k hk hs
/-- the item of slot d -/
def findD (d : Tmp) : List Kn → Option Kn
  | [] => none
  | .nd j e s A A' :: r => bif Nat.beq e d then some (.nd j e s A A') else findD d r
  | _ :: r => findD d r
theorem findD_spec {d : Tmp} {k0 : Kn} : ∀ {ks : List Kn}, findD d ks = some k0 → k0 ∈ ks := by
  intro ks
  induction ks with
  | nil => intro h; cases h
  | cons x ks ih =>
    intro h
    cases x with
    | det => exact List.mem_cons_of_mem _ (ih h)
    | nd j e s A A' =>
      simp only [findD] at h
      cases hb : Nat.beq e d with
      | true => rw [hb] at h; cases h; exact List.mem_cons_self
      | false => rw [hb] at h; exact List.mem_cons_of_mem _ (ih h)
/-- the operation comes ahead of all writes -/
def WB (ops : Array Oper) (es : List Nat) (i : Nat) : Bool := match es with
  | [] => true
  | e :: _ => Nat.beq i e || onB ops e i
theorem WB_spec {p : Nat} (h : WB ops es i = true) (h1 : p ≤ es.length) (h2 : phOK ops es i p = true) : p = 0 := by
  cases p with
  | zero => rfl
  | succ p =>
    exfalso
    cases es with
    | nil => simp at h1
    | cons e es =>
      simp only [phOK, Bool.and_eq_true, List.take_succ_cons, List.all_cons] at h2
      have h' : (Nat.beq i e || onB ops e i) = true := h
      rw [h'] at h2
      simp at h2
def AtDet (N : Sz) (o : Oper) (v : Value) (w : World) (a' : Act) (w' : World) : Prop := Below w.heap.size w w' ∧ a'.defers = N.marks ∧ ∀ t, o.dst = some t → a'.tmps[t]? = some v
theorem JD.nil (k : ∀ w, frFin ks (fr0 n) (Ls es.length) fun fr M => Own w0 w M → Z fr w) : JD P N ops Q n es Ls w0 fr0 Z [] i ks := k
/-- a value that is known, whatever comes first -/
theorem JD.det {o : Oper} (v : Value) (he : neB es i = true) (hs0 : noS ks i = true) (h : ∀ p w, p ≤ es.length → phOK ops es i p = true → Own w0 w (Ls p) → JL P N ops (Exit.then (AtDet N o v w) Q) [o] (frDet (depsOf o.after) ks (fr0 i)) w)
    (k : JD P N ops Q n es Ls w0 fr0 Z r (i + 1) (.det i o.dst v :: ks)) : JD P N ops Q n es Ls w0 fr0 Z (o :: r) i ks := by
  refine ⟨.det i o.dst v, none, rfl, rfl, fun s hs => (by cases hs), ⟨noS_spec hs0, fun p a w X h1 h2 hO Hf => ?_⟩, k⟩
  rw [nextP_ne he]
  exact wpList_exit (fun a' w' hh => ⟨hh.2.1, hh.2.2, hO.grow hh.1⟩) (h p w h1 h2 hO.right a Hf)
theorem JL.one {v : Value} {o : Oper} {fr : Fr} {w w' : World} (hb : Below w.heap.size w w') : JL P N ops (Exit.then (AtDet N o v w) Q) [] (fr.put o.dst v) w' := by
  refine JL.nil fun a H => ⟨hb, H.defers, fun d hd => ?_⟩
  have hd' : o.dst = some d := hd
  rw [hd'] at H
  exact H.get d v (by simp [Fr.put, Fr.get])
def sB (ops : Array Oper) (n i : Nat) : Option Nat → Bool
  | none => true
  | some s => Nat.blt i s && Nat.blt s n && onB ops s i
/-- a value with memory of its own -/
theorem JD.nd {o : Oper} {d : Tmp} (s : Option Nat) (A A' : Value → HP) (ho : o.dst = some d) (he : neB es i = true) (hs0 : noS ks i = true) (hsB : sB ops n i s = true)
    (h : ∀ p w X, p ≤ es.length → phOK ops es i p = true → Own w0 w (X ++ Ls p) → JL P N ops (Exit.then (fun a' w' => a'.defers = N.marks ∧ ∃ v, a'.tmps[d]? = some v ∧ Own w0 w' (A v :: (X ++ Ls p))) Q) [o] (frDet (depsOf o.after) ks (fr0 i)) w)
    (k : JD P N ops Q n es Ls w0 fr0 Z r (i + 1) (.nd i d s A A' :: ks)) : JD P N ops Q n es Ls w0 fr0 Z (o :: r) i ks := by
  refine ⟨.nd i d s A A', none, rfl, ho.symm, fun s' hs => ?_, ⟨noS_spec hs0, fun p a w X h1 h2 hO Hf => ?_⟩, k⟩
  · have : s = some s' := hs
    subst this
    simp only [sB, Bool.and_eq_true] at hsB
    exact ⟨Nat.lt_of_succ_le (Nat.le_of_ble_eq_true hsB.1.1), Nat.lt_of_succ_le (Nat.le_of_ble_eq_true hsB.1.2), hsB.2⟩
  · rw [nextP_ne he]
    exact h p w X h1 h2 hO a Hf
/-- a call that hands back memory of its own -/
theorem JL.oneN {v : Value} {o : Oper} {fr : Fr} {w' : World} {d : Tmp} {A : Value → HP} {M : List HP} (ho : o.dst = some d) (hO : Own w0 w' (A v :: M)) : JL P N ops (Exit.then (fun a' w' => a'.defers = N.marks ∧ ∃ v, a'.tmps[d]? = some v ∧ Own w0 w' (A v :: M)) Q) [] (fr.put o.dst v) w' := by
  refine JL.nil fun a H => ⟨H.defers, v, ?_, hO⟩
  rw [ho] at H
  exact H.get d v (by simp [Fr.put, Fr.get])

theorem JD.pure {op : Op} {v : Value} (hv : pureOp (frDet (depsOf af) ks (fr0 i)) op = some v) (hd : Fr.fits N d = true)
    (k : JD P N ops Q n es Ls w0 fr0 Z r (i + 1) (.det i d v :: ks)) (he : neB es i = true := by rfl) (hs0 : noS ks i = true := by rfl) : JD P N ops Q n es Ls w0 fr0 Z (⟨d, op, ty, pos, af, none⟩ :: r) i ks :=
  JD.det v he hs0 (fun _ _ _ _ _ => JL.pure hv hd (JL.one (o := ⟨d, op, ty, pos, af, none⟩) (Below.refl _ _))) k

theorem JD.arith {t yt : TypeId} {x y : Operand} {op : BinOp} {m : Int} (hv : pureOp (frDet (depsOf af) ks (fr0 i)) (.binOp op t x y yt) = some (.int .i64 (w64 m))) (hm : In64 m) (hd : Fr.fits N d = true)
    (k : JD P N ops Q n es Ls w0 fr0 Z r (i + 1) (.det i d (.int .i64 m) :: ks)) (he : neB es i = true := by rfl) (hs0 : noS ks i = true := by rfl) : JD P N ops Q n es Ls w0 fr0 Z (⟨d, .binOp op t x y yt, ty, pos, af, none⟩ :: r) i ks :=
  JD.pure (by rw [hv, w64_id hm]) hd k he hs0
theorem JD.neg {t : TypeId} {x : Operand} {m : Int} (hv : pureOp (frDet (depsOf af) ks (fr0 i)) (.unOp .neg t x) = some (.int .i64 (w64 m))) (hm : In64 m) (hd : Fr.fits N d = true)
    (k : JD P N ops Q n es Ls w0 fr0 Z r (i + 1) (.det i d (.int .i64 m) :: ks)) (he : neB es i = true := by rfl) (hs0 : noS ks i = true := by rfl) : JD P N ops Q n es Ls w0 fr0 Z (⟨d, .unOp .neg t x, ty, pos, af, none⟩ :: r) i ks :=
  JD.pure (by rw [hv, w64_id hm]) hd k he hs0

theorem JD.fieldAddr {x : Operand} {t u : TypeId} {f β off o m : Nat} {b : Bool} {fs : Array Field} (hx : (frDet (depsOf af) ks (fr0 i)).ev x = some (.pointer (some ⟨β, off, none⟩))) (hu : P.underlying t = some (.struct fs))
    (hf : fOff fs f = some (o, u)) (hs : tySh P u = some (b, m + 1)) (hd : Fr.fits N d = true) (k : JD P N ops Q n es Ls w0 fr0 Z r (i + 1) (.det i d (.pointer (some ⟨β, off + o, none⟩)) :: ks)) (he : neB es i = true := by rfl) (hs0 : noS ks i = true := by rfl) :
    JD P N ops Q n es Ls w0 fr0 Z (⟨d, .fieldAddr t x f, ty, pos, af, none⟩ :: r) i ks :=
  JD.det _ he hs0 (fun _ _ _ _ _ => JL.fieldAddr hx hu hf hs hd (JL.one (o := ⟨d, .fieldAddr t x f, ty, pos, af, none⟩) (Below.refl _ _))) k

theorem JD.load {x : Operand} {t : TypeId} {β off : Nat} {sh : Bool × Nat} {v : Value} (hx : (frDet (depsOf af) ks (fr0 i)).ev x = some (.pointer (some ⟨β, off, none⟩))) (hs : tySh P t = some sh)
    (hl : ∀ w, Own w0 w (Ls 0) → LdAt w β off sh v) (hd : Fr.fits N d = true) (k : JD P N ops Q n es Ls w0 fr0 Z r (i + 1) (.det i d v :: ks)) (he : neB es i = true := by rfl) (hs0 : noS ks i = true := by rfl) (hW : WB ops es i = true := by rfl) :
    JD P N ops Q n es Ls w0 fr0 Z (⟨d, .load t x, ty, pos, af, none⟩ :: r) i ks :=
  JD.det _ he hs0 (fun p w h1 h2 hO => JL.load hx hs (hl w (by have := WB_spec hW h1 h2; subst this; exact hO)) hd (JL.one (o := ⟨d, .load t x, ty, pos, af, none⟩) (Below.refl _ _))) k
/-- a load that may come ahead of a write or behind it -/
theorem JD.loadK {x : Operand} {t : TypeId} {β off : Nat} {sh : Bool × Nat} {v : Value} (hx : (frDet (depsOf af) ks (fr0 i)).ev x = some (.pointer (some ⟨β, off, none⟩))) (hs : tySh P t = some sh)
    (hl : ∀ p w, p ≤ es.length → Own w0 w (Ls p) → LdAt w β off sh v) (hd : Fr.fits N d = true) (k : JD P N ops Q n es Ls w0 fr0 Z r (i + 1) (.det i d v :: ks)) (he : neB es i = true := by rfl) (hs0 : noS ks i = true := by rfl) :
    JD P N ops Q n es Ls w0 fr0 Z (⟨d, .load t x, ty, pos, af, none⟩ :: r) i ks :=
  JD.det _ he hs0 (fun p w h1 _ hO => JL.load hx hs (hl p w h1 hO) hd (JL.one (o := ⟨d, .load t x, ty, pos, af, none⟩) (Below.refl _ _))) k

theorem JD.loadB {x : Operand} {t : TypeId} {β off : Nat} {sh : Bool × Nat} {v : Value} {cs : Array Value} {e : TypeId} {fz : Nat × Nat} (j : Nat)
    (hx : (frDet (depsOf af) ks (fr0 i)).ev x = some (.pointer (some ⟨β, off, none⟩))) (hs : tySh P t = some sh) (hi : (Ls 0)[j]? = some (blk β (.cells cs e fz)))
    (hl : loadOf cs.toList off sh = some v) (hd : Fr.fits N d = true) (k : JD P N ops Q n es Ls w0 fr0 Z r (i + 1) (.det i d v :: ks)) (he : neB es i = true := by rfl) (hs0 : noS ks i = true := by rfl) (hW : WB ops es i = true := by rfl) : JD P N ops Q n es Ls w0 fr0 Z (⟨d, .load t x, ty, pos, af, none⟩ :: r) i ks :=
  JD.load hx hs (fun _ hB => LdAt.of_block (hB.get hi).2 hl) hd k he hs0 hW
theorem JD.indexS {x ix : Operand} {t e : TypeId} {β off len cap sz : Nat} {b : Bool} {m : Int} (j : Nat) (hx : (frDet (depsOf af) ks (fr0 i)).ev x = some (.slice (some ⟨β, off, none⟩) len cap))
    (hi : (frDet (depsOf af) ks (fr0 i)).ev ix = some (.int .i64 m)) (hu : P.underlying t = some (.slice e)) (hs : tySh P e = some (b, sz)) (hm : m = (j : Int)) (hj : j < len) (hd : Fr.fits N d = true)
    (k : JD P N ops Q n es Ls w0 fr0 Z r (i + 1) (.det i d (.pointer (some ⟨β, off + j * sz, none⟩)) :: ks)) (he : neB es i = true := by rfl) (hs0 : noS ks i = true := by rfl) : JD P N ops Q n es Ls w0 fr0 Z (⟨d, .indexAddr t x ix, ty, pos, af, none⟩ :: r) i ks :=
  JD.det _ he hs0 (fun _ _ _ _ _ => JL.indexS j hx hi hu hs hm hj hd (JL.one (o := ⟨d, .indexAddr t x ix, ty, pos, af, none⟩) (Below.refl _ _))) k

theorem JD.indexA {x ix : Operand} {t e : TypeId} {β off len sz : Nat} {b : Bool} {m : Int} (j : Nat) (hx : (frDet (depsOf af) ks (fr0 i)).ev x = some (.pointer (some ⟨β, off, none⟩)))
    (hi : (frDet (depsOf af) ks (fr0 i)).ev ix = some (.int .i64 m)) (hu : P.underlying t = some (.array len e)) (hs : tySh P e = some (b, sz)) (hm : m = (j : Int)) (hj : j < len) (hd : Fr.fits N d = true)
    (k : JD P N ops Q n es Ls w0 fr0 Z r (i + 1) (.det i d (.pointer (some ⟨β, off + j * sz, none⟩)) :: ks)) (he : neB es i = true := by rfl) (hs0 : noS ks i = true := by rfl) : JD P N ops Q n es Ls w0 fr0 Z (⟨d, .indexAddr t x ix, ty, pos, af, none⟩ :: r) i ks :=
  JD.det _ he hs0 (fun _ _ _ _ _ => JL.indexA j hx hi hu hs hm hj hd (JL.one (o := ⟨d, .indexAddr t x ix, ty, pos, af, none⟩) (Below.refl _ _))) k

theorem JD.len {x : Operand} {t e : TypeId} {a0 : Option Addr} {m c : Nat} (hx : (frDet (depsOf af) ks (fr0 i)).ev x = some (.slice a0 m c)) (hu : P.underlying t = some (.slice e)) (hd : Fr.fits N d = true)
    (k : JD P N ops Q n es Ls w0 fr0 Z r (i + 1) (.det i d (.int .i64 m) :: ks)) (he : neB es i = true := by rfl) (hs0 : noS ks i = true := by rfl) : JD P N ops Q n es Ls w0 fr0 Z (⟨d, .call ⟨.builtin .len, #[x], #[t]⟩, ty, pos, af, none⟩ :: r) i ks :=
  JD.det _ he hs0 (fun _ _ _ _ _ => JL.len hx hu hd (JL.one (o := ⟨d, .call ⟨.builtin .len, #[x], #[t]⟩, ty, pos, af, none⟩) (Below.refl _ _))) k

theorem JD.build {t : TypeId} {ps : Array (Nat × Operand)} {pl : List (Nat × Nat)} {z cs : List Value} (ht : tyStruct P t = some (pl, z)) (hc : fillK (frDet (depsOf af) ks (fr0 i)) (fun i => pl[i]?) ps.toList z = some cs)
    (hd : Fr.fits N d = true) (k : JD P N ops Q n es Ls w0 fr0 Z r (i + 1) (.det i d (.agg ⟨cs⟩) :: ks)) (he : neB es i = true := by rfl) (hs0 : noS ks i = true := by rfl) : JD P N ops Q n es Ls w0 fr0 Z (⟨d, .build t ps, ty, pos, af, none⟩ :: r) i ks :=
  JD.det _ he hs0 (fun _ _ _ _ _ => JL.build ht hc hd (JL.one (o := ⟨d, .build t ps, ty, pos, af, none⟩) (Below.refl _ _))) k

theorem JD.conv {s t : TypeId} {x : Operand} {k0 k1 : IntKind} {ds : TypeDesc} {m : Int} (hx : (frDet (depsOf af) ks (fr0 i)).ev x = some (.int k0 m)) (hs : P.underlying s = some ds) (hu : P.underlying t = some (.int k1)) (hd : Fr.fits N d = true)
    (k : JD P N ops Q n es Ls w0 fr0 Z r (i + 1) (.det i d (.int k1 (k1.wrap m)) :: ks)) (he : neB es i = true := by rfl) (hs0 : noS ks i = true := by rfl) : JD P N ops Q n es Ls w0 fr0 Z (⟨d, .convert s t x, ty, pos, af, none⟩ :: r) i ks :=
  JD.det _ he hs0 (fun _ _ _ _ _ => JL.conv hx hs hu hd (JL.one (o := ⟨d, .convert s t x, ty, pos, af, none⟩) (Below.refl _ _))) k

theorem JD.nilCheck {x : Operand} {a0 : Addr} (hx : (frDet (depsOf af) ks (fr0 i)).ev x = some (.pointer (some a0))) (hd : Fr.fits N d = true)
    (k : JD P N ops Q n es Ls w0 fr0 Z r (i + 1) (.det i d (.pointer (some a0)) :: ks)) (he : neB es i = true := by rfl) (hs0 : noS ks i = true := by rfl) : JD P N ops Q n es Ls w0 fr0 Z (⟨d, .nilCheck x, ty, pos, af, none⟩ :: r) i ks :=
  JD.det _ he hs0 (fun _ _ _ _ _ => JL.nilCheck hx hd (JL.one (o := ⟨d, .nilCheck x, ty, pos, af, none⟩) (Below.refl _ _))) k

theorem JD.quo {t yt : TypeId} {x y : Operand} {a b : Int} (hx : (frDet (depsOf af) ks (fr0 i)).ev x = some (.int .i64 a)) (hy : (frDet (depsOf af) ks (fr0 i)).ev y = some (.int .i64 b)) (hb : b ≠ 0) (hd : Fr.fits N d = true)
    (k : JD P N ops Q n es Ls w0 fr0 Z r (i + 1) (.det i d (.int .i64 (w64 (a.tdiv b))) :: ks)) (he : neB es i = true := by rfl) (hs0 : noS ks i = true := by rfl) : JD P N ops Q n es Ls w0 fr0 Z (⟨d, .binOp .quo t x y yt, ty, pos, af, none⟩ :: r) i ks :=
  JD.det _ he hs0 (fun _ _ _ _ _ => JL.quo hx hy hb hd (JL.one (o := ⟨d, .binOp .quo t x y yt, ty, pos, af, none⟩) (Below.refl _ _))) k

theorem JD.quoP {t yt : TypeId} {x y : Operand} {a b : Int} (hx : (frDet (depsOf af) ks (fr0 i)).ev x = some (.int .i64 a)) (hy : (frDet (depsOf af) ks (fr0 i)).ev y = some (.int .i64 b)) (ha : 0 ≤ a) (hb : 1 ≤ b)
    (hi : a ≤ 9223372036854775807) (hd : Fr.fits N d = true)
    (k : JD P N ops Q n es Ls w0 fr0 Z r (i + 1) (.det i d (.int .i64 (a / b)) :: ks)) (he : neB es i = true := by rfl) (hs0 : noS ks i = true := by rfl) : JD P N ops Q n es Ls w0 fr0 Z (⟨d, .binOp .quo t x y yt, ty, pos, af, none⟩ :: r) i ks :=
  JD.det _ he hs0 (fun _ _ _ _ _ => JL.quoP hx hy ha hb hi hd (JL.one (o := ⟨d, .binOp .quo t x y yt, ty, pos, af, none⟩) (Below.refl _ _))) k
def ptrHP (o : Obj) (v : Value) : HP := fun h => ∃ β, v = .pointer (some ⟨β, 0, none⟩) ∧ blk β o h
def slcHP (o : Obj) (m : Nat) (v : Value) : HP := fun h => ∃ β, v = .slice (some ⟨β, 0, none⟩) m m ∧ blk β o h
theorem Own.ptr {w0 w : World} {L : List HP} {o : Obj} {v : Value} (H : Own w0 w L) {j : Nat} (hj : L[j]? = some (ptrHP o v)) : ∃ β, v = .pointer (some ⟨β, 0, none⟩) ∧ Own w0 w (L.set j (blk β o)) := by
  obtain ⟨hB, h, hl, hs⟩ := H
  obtain ⟨x, y, d, rfl, ⟨β, hv, a⟩, c⟩ := starL_focus hj hs
  exact ⟨β, hv, hB, _, hl, starL_unfocus hj ⟨x, y, d, rfl, a, c⟩⟩
theorem Own.slc {w0 w : World} {L : List HP} {o : Obj} {m : Nat} {v : Value} (H : Own w0 w L) {j : Nat} (hj : L[j]? = some (slcHP o m v)) : ∃ β, v = .slice (some ⟨β, 0, none⟩) m m ∧ Own w0 w (L.set j (blk β o)) := by
  obtain ⟨hB, h, hl, hs⟩ := H
  obtain ⟨x, y, d, rfl, ⟨β, hv, a⟩, c⟩ := starL_focus hj hs
  exact ⟨β, hv, hB, _, hl, starL_unfocus hj ⟨x, y, d, rfl, a, c⟩⟩
theorem Own.entail0 {w0 w : World} {A B : HP} {L : List HP} (H : Own w0 w (A :: L)) (h : ∀ h, A h → B h) : Own w0 w (B :: L) := H.entail fun _ hs => star_mono h (fun _ h => h) hs
theorem JD.alloc {d : Tmp} {t : TypeId} {cs : List Value} (hz : tyZero P t = some cs) (hd : Fr.fits N (some d) = true)
    (k : JD P N ops Q n es Ls w0 fr0 Z r (i + 1) (.nd i d none (ptrHP (.cells ⟨cs⟩ t (0, 0))) (ptrHP (.cells ⟨cs⟩ t (0, 0))) :: ks)) (he : neB es i = true := by rfl) (hs0 : noS ks i = true := by rfl) :
    JD P N ops Q n es Ls w0 fr0 Z (⟨some d, .alloc t, ty, pos, af, none⟩ :: r) i ks :=
  JD.nd none _ _ rfl he hs0 rfl (fun p w X _ _ hO => JL.alloc hO hz hd fun β w' H' => JL.oneN (o := ⟨some d, .alloc t, ty, pos, af, none⟩) (A := ptrHP (.cells ⟨cs⟩ t (0, 0))) rfl (H'.entail0 fun _ hb => ⟨β, rfl, hb⟩)) k
/-- memory that operation s writes anew, with what slot y holds -/
theorem JD.allocS {d : Tmp} {t : TypeId} {cs : List Value} {v : Value} (s : Nat) (y : Operand) (hz : tyZero P t = some cs) (hd : Fr.fits N (some d) = true) (hy : (frDet (fun _ => true) ks (fr0 i)).ev y = some v)
    (k : JD P N ops Q n es Ls w0 fr0 Z r (i + 1) (.nd i d (some s) (ptrHP (.cells ⟨cs⟩ t (0, 0))) (ptrHP (.cells ⟨cellsL v⟩ t (0, 0))) :: ks)) (he : neB es i = true := by rfl) (hs0 : noS ks i = true := by rfl) (hsB : sB ops n i (some s) = true := by rfl) :
    JD P N ops Q n es Ls w0 fr0 Z (⟨some d, .alloc t, ty, pos, af, none⟩ :: r) i ks :=
  JD.nd (some s) _ _ rfl he hs0 hsB (fun p w X _ _ hO => JL.alloc hO hz hd fun β w' H' => JL.oneN (o := ⟨some d, .alloc t, ty, pos, af, none⟩) (A := ptrHP (.cells ⟨cs⟩ t (0, 0))) rfl (H'.entail0 fun _ hb => ⟨β, rfl, hb⟩)) k
theorem Has.shadow {N : Sz} {fr : Fr} {a : Act} {x : Tmp} {u v : Value} {y : Operand} (Hf : Has N fr a) (hx : a.tmps[x]? = some u) (hy : fr.ev y = some v) : Fr.ev ((x, u) :: fr) y = some v := by
  cases y with
  | tmp t =>
    simp only [Fr.ev, Fr.get] at hy ⊢
    cases hb : Nat.beq x t with
    | false => exact hy
    | true =>
      have hxt := Nat.eq_of_beq_eq_true hb
      subst hxt
      have := Hf.get _ _ hy
      rw [hx] at this
      exact this
  | const => exact hy
  | func => exact hy
  | global => exact hy
theorem JD.storeF {x : Tmp} {y : Operand} {t t' : TypeId} {m kk : Nat} {b : Bool} {v : Value} {cs : List Value} (hf : findS i ks = some (.nd kk x (some i) (ptrHP (.cells ⟨cs⟩ t' (0, 0))) (ptrHP (.cells ⟨cellsL v⟩ t' (0, 0))))) (hdep : depsOf af kk = true)
    (hy : (frDet (depsOf af) ks (fr0 i)).ev y = some v) (hs : tySh P t = some (b, m)) (hn : (cellsL v).length = m) (h1 : allOne (cellsL v) = true) (hset : setK 0 (cellsL v) cs some = some (cellsL v))
    (k : JD P N ops Q n es Ls w0 fr0 Z r (i + 1) (.det i none undef :: ks)) (he : neB es i = true := by rfl) : JD P N ops Q n es Ls w0 fr0 Z (⟨none, .store t (.tmp x) y, ty, pos, af, none⟩ :: r) i ks := by
  obtain ⟨g1, g2⟩ := findS_spec hf
  refine ⟨.det i none undef, some (.nd kk x (some i) (ptrHP (.cells ⟨cs⟩ t' (0, 0))) (ptrHP (.cells ⟨cellsL v⟩ t' (0, 0)))), rfl, rfl, fun s hs => (by cases hs), ⟨g1, hdep, .inr ⟨rfl, undef, rfl⟩, g2, fun p a w X u _ _ hO Hf hx => ?_⟩, k⟩
  rw [nextP_ne he]
  simp only [if_true]
  obtain ⟨β, rfl, hO'⟩ := hO.ptr (j := 0) rfl
  have Hf' := Hf.more hx
  refine JL.storeB 0 hO' (fr := (x, .pointer (some ⟨β, 0, none⟩)) :: frDet (depsOf af) ks (fr0 i)) (by simp [Fr.ev, Fr.get]) (v := v) ?_ hs rfl hn h1 hset rfl (fun w' HH => ?_) a Hf'
  · exact Hf.shadow hx hy
  · refine JL.nil fun a2 H2 => ⟨H2.defers, fun t ht => (by cases ht), ?_⟩
    exact Own.entail0 HH fun _ hb => ⟨β, rfl, hb⟩
theorem JD.buildSlice {d : Tmp} {t e : TypeId} {m sz : Nat} {b : Bool} {ps : Array (Nat × Operand)} {z cs : List Value} (hu : P.underlying t = some (.slice e)) (hs : tySh P e = some (b, sz)) (hz : tyZero P e = some z)
    (hn : Nat.ble (m * sz) 16777216 = true) (hzl : z.length = sz) (hpos : Nat.ble 1 sz = true) (hc : fillK (frDet (depsOf af) ks (fr0 i)) (fun i => some (i * sz, sz)) ps.toList (List.replicate m z).flatten = some cs) (hd : Fr.fits N (some d) = true)
    (k : JD P N ops Q n es Ls w0 fr0 Z r (i + 1) (.nd i d none (slcHP (.cells ⟨cs⟩ e (0, 0)) m) (slcHP (.cells ⟨cs⟩ e (0, 0)) m) :: ks)) (he : neB es i = true := by rfl) (hs0 : noS ks i = true := by rfl) :
    JD P N ops Q n es Ls w0 fr0 Z (⟨some d, .buildSlice t m ps, ty, pos, af, none⟩ :: r) i ks :=
  JD.nd none _ _ rfl he hs0 rfl (fun p w X _ _ hO => JL.buildSlice hO hu hs hz hn hzl hpos hc hd fun β w' H' => JL.oneN (o := ⟨some d, .buildSlice t m ps, ty, pos, af, none⟩) (A := slcHP (.cells ⟨cs⟩ e (0, 0)) m) rfl (H'.entail0 fun _ hb => ⟨β, rfl, hb⟩)) k
/-- a call whose value is known; it may make memory -/
theorem JD.call {f : FuncId} {xs : Array Operand} {tys : Array TypeId} {vs : List Value} {v : Value} (hb : hasBody P f = true) (hx : (frDet (depsOf af) ks (fr0 i)).evs xs.toList = some vs) (hd : Fr.fits N d = true)
    (hc : ∀ w, Own w0 w (Ls 0) → Pur P f vs.toArray w v)
    (k : JD P N ops Q n es Ls w0 fr0 Z r (i + 1) (.det i d v :: ks)) (he : neB es i = true := by rfl) (hs0 : noS ks i = true := by rfl) (hW : WB ops es i = true := by rfl) : JD P N ops Q n es Ls w0 fr0 Z (⟨d, .call ⟨.value (.func f), xs, tys⟩, ty, pos, af, none⟩ :: r) i ks :=
  JD.det v he hs0 (fun p w h1 h2 hO => JL.call hb hx hd (hc w (by have := WB_spec hW h1 h2; subst this; exact hO)) fun _ _ he => ⟨v, he.1, JL.one (o := ⟨d, .call ⟨.value (.func f), xs, tys⟩, ty, pos, af, none⟩) he.2⟩) k
theorem JD.callv {f : FuncId} {x : Operand} {first capt : List Value} {xs : Array Operand} {tys : Array TypeId} {vs : List Value} {v : Value}
    (hf : (frDet (depsOf af) ks (fr0 i)).ev x = some (.func (.func f) ⟨first⟩ ⟨capt⟩)) (hb : hasBody P f = true) (hx : (frDet (depsOf af) ks (fr0 i)).evs xs.toList = some vs) (hd : Fr.fits N d = true)
    (hc : ∀ w, Own w0 w (Ls 0) → Pur P f (first ++ vs ++ capt).toArray w v)
    (k : JD P N ops Q n es Ls w0 fr0 Z r (i + 1) (.det i d v :: ks)) (he : neB es i = true := by rfl) (hs0 : noS ks i = true := by rfl) (hW : WB ops es i = true := by rfl) : JD P N ops Q n es Ls w0 fr0 Z (⟨d, .call ⟨.value x, xs, tys⟩, ty, pos, af, none⟩ :: r) i ks :=
  JD.det v he hs0 (fun p w h1 h2 hO => JL.callv hf hb hx hd (hc w (by have := WB_spec hW h1 h2; subst this; exact hO)) fun _ _ he => ⟨v, he.1, JL.one (o := ⟨d, .call ⟨.value x, xs, tys⟩, ty, pos, af, none⟩) he.2⟩) k

/-- a guarded operation that is carried out -/
theorem JD.want {op : Op} {j : Nat} {b : Bool} {t : Tmp} (hj : (ops[j]?).bind (·.dst) = some t) (hv : (frDet (depsOf af) ks (fr0 i)).get t = some (.bool b))
    (k : JD P N ops Q n es Ls w0 fr0 Z (⟨d, op, ty, pos, af, none⟩ :: r) i ks) : JD P N ops Q n es Ls w0 fr0 Z (⟨d, op, ty, pos, af, some (j, b)⟩ :: r) i ks := by
  obtain ⟨kn, dep, e1, e2, e3, hob, h'⟩ := k
  have key : ∀ Q' a w, Has N (frDet (depsOf af) ks (fr0 i)) a → wpListIn (wideR N.ro) 0 P ops Q' [⟨d, op, ty, pos, af, none⟩] a w → wpListIn (wideR N.ro) 0 P ops Q' [⟨d, op, ty, pos, af, some (j, b)⟩] a w := by
    intro Q' a w Hf hk
    unfold wpListIn at hk ⊢
    have h1 : yielded ops a.tmps j = some b := by simp [yielded, hj, Hf.get t _ hv]
    rw [if_pos (by simp [Region.wanted, h1])]
    rw [if_pos (by simp [Region.wanted])] at hk
    exact hk
  refine ⟨kn, dep, e1, e2, e3, ?_, h'⟩
  cases dep with
  | none => exact ⟨hob.1, fun p a w X h1 h2 hO Hf => key _ a w Hf (hob.2 p a w X h1 h2 hO Hf)⟩
  | some k0 => cases k0 with
    | det => exact ⟨hob.1, fun p a w X h1 h2 hO Hf => key _ a w Hf (hob.2 p a w X h1 h2 hO Hf)⟩
    | nd => 
      obtain ⟨g1, g2, g3, g4, g5⟩ := hob
      exact ⟨g1, g2, g3, g4, fun p a w X v h1 h2 hO Hf hs => key _ a w Hf (g5 p a w X v h1 h2 hO Hf hs)⟩

theorem JD.pass {op : Op} {j : Nat} {b c : Bool} {t : Tmp} (hj : (ops[j]?).bind (·.dst) = some t) (hv : (frDet (depsOf af) ks (fr0 i)).get t = some (.bool c)) (hne : (c == b) = false) (hd : Fr.fits N d = true)
    (k : JD P N ops Q n es Ls w0 fr0 Z r (i + 1) (.det i d undef :: ks)) (he : neB es i = true := by rfl) (hs0 : noS ks i = true := by rfl) : JD P N ops Q n es Ls w0 fr0 Z (⟨d, op, ty, pos, af, some (j, b)⟩ :: r) i ks :=
  JD.det undef he hs0 (fun _ _ _ _ _ => JL.pass hj hv hne hd (JL.one (o := ⟨d, op, ty, pos, af, some (j, b)⟩) (Below.refl _ _))) k
theorem JD.passU {op : Op} {j : Nat} {b : Bool} {t : Tmp} (hj : (ops[j]?).bind (·.dst) = some t) (hv : (frDet (depsOf af) ks (fr0 i)).get t = some undef) (hd : Fr.fits N d = true)
    (k : JD P N ops Q n es Ls w0 fr0 Z r (i + 1) (.det i d undef :: ks)) (he : neB es i = true := by rfl) (hs0 : noS ks i = true := by rfl) : JD P N ops Q n es Ls w0 fr0 Z (⟨d, op, ty, pos, af, some (j, b)⟩ :: r) i ks :=
  JD.det undef he hs0 (fun _ _ _ _ _ => JL.passU hj hv hd (JL.one (o := ⟨d, op, ty, pos, af, some (j, b)⟩) (Below.refl _ _))) k

/-- a Bool that is known, decided both ways -/
theorem JD.cases (t : Tmp) {j : Nat} {b : Bool} {ks' : List Kn} (hk : ks = .det j (some t) (.bool b) :: ks') (ht : b = true → JD P N ops Q n es Ls w0 fr0 Z r i (.det j (some t) (.bool true) :: ks'))
    (hf : b = false → JD P N ops Q n es Ls w0 fr0 Z r i (.det j (some t) (.bool false) :: ks')) : JD P N ops Q n es Ls w0 fr0 Z r i ks := by
  subst hk
  cases b with
  | true => exact ht rfl
  | false => exact hf rfl
end
end
section
variable {P : Program} {N : Sz} {ops : Array Oper} {Q : Exit → Act → World → Prop} {rest : List Oper} {fr : Fr} {w w0 : World} {L : List HP}
  {d : Option Tmp} {ty : TypeId} {pos : String} {af : Array Edge}
theorem JL.callP {f : FuncId} {xs : Array Operand} {tys : Array TypeId} {vs : List Value} {v : Value} (H : Own w0 w L) (hb : hasBody P f = true) (hx : fr.evs xs.toList = some vs) (hd : Fr.fits N d = true)
    (hc : Pur P f vs.toArray w v) (k : ∀ w', Own w0 w' L → Below w.heap.size w w' → JL P N ops Q rest (fr.put d v) w') :
    JL P N ops Q (⟨d, .call ⟨.value (.func f), xs, tys⟩, ty, pos, af, none⟩ :: rest) fr w :=
  JL.call hb hx hd hc fun _ w' he => ⟨v, he.1, k w' (H.grow he.2) he.2⟩
theorem JL.callvP {f : FuncId} {x : Operand} {first capt : List Value} {xs : Array Operand} {tys : Array TypeId} {vs : List Value} {v : Value} (H : Own w0 w L)
    (hf : fr.ev x = some (.func (.func f) ⟨first⟩ ⟨capt⟩)) (hb : hasBody P f = true) (hx : fr.evs xs.toList = some vs) (hd : Fr.fits N d = true)
    (hc : Pur P f (first ++ vs ++ capt).toArray w v) (k : ∀ w', Own w0 w' L → Below w.heap.size w w' → JL P N ops Q rest (fr.put d v) w') :
    JL P N ops Q (⟨d, .call ⟨.value x, xs, tys⟩, ty, pos, af, none⟩ :: rest) fr w :=
  JL.callv hf hb hx hd hc fun _ w' he => ⟨v, he.1, k w' (H.grow he.2) he.2⟩
theorem pur_J {n : Nat} {f : FuncId} {fn : Func} {c : Code} {args : List Value} {v : Value}
    (hf : P.funcs[f]? = some fn) (hb : fn.body = some c) (hn : fn.ntmps = n) (hl : Nat.ble args.length n = true)
    (k : JC P ⟨n, [], none⟩ c (bodyJ P fn fun e w' => e = .returned v ∧ Below w.heap.size w w') (frOf 0 args) w) : Pur P f args.toArray w v := calls_J hf hb hn hl k
end
end Go.J
