/-
  Lemmas for the statements of this seat; no statement is proved here. No condition.
-/
import Derived.Test.YtfbmgmdjaoackaaJBase
namespace Go.J
set_option linter.unusedSimpArgs false
set_option linter.unusedVariables false
open Go.RowKit

def w64 (n : Int) : Int := IntKind.i64.wrap n
def In64 (n : Int) : Prop := -9223372036854775808 ≤ n ∧ n ≤ 9223372036854775807
theorem w64_id {n : Int} (h : In64 n) : w64 n = n := by
  obtain ⟨h1, h2⟩ := h
  simp only [w64, IntKind.wrap, IntKind.bits, IntKind.signed]
  simp
  omega

/-- the list of operations rest, from a world w and a frame that is known as fr -/
def JL (P : Program) (N : Sz) (ops : Array Oper) (Q : Exit → Act → World → Prop) (rest : List Oper) (fr : Fr) (w : World) : Prop :=
  ∀ a, Has N fr a → wpListIn (wideR N.ro) 0 P ops Q rest a w
/-- code, likewise -/
def JC (P : Program) (N : Sz) (c : Code) (Q : Exit → Act → World → Prop) (fr : Fr) (w : World) : Prop :=
  ∀ a, Has N fr a → c.wpIn (wideR N.ro) 0 P Q a w

/-- a way out of code -/
def Ex (N : Sz) (Q : Exit → Act → World → Prop) (e : Exit) (fr : Fr) (w : World) : Prop := ∀ a, Has N fr a → Q e a w

def binI (op : BinOp) (x y : Int) : Option Value :=
  match op with
  | .add => some (.int .i64 (w64 (x + y)))
  | .sub => some (.int .i64 (w64 (x - y)))
  | .mul => some (.int .i64 (w64 (x * y)))
  | .eql => some (.bool (decide (x = y)))
  | .neq => some (.bool (decide (x ≠ y)))
  | .lss => some (.bool (decide (x < y)))
  | .leq => some (.bool (decide (x ≤ y)))
  | .gtr => some (.bool (decide (y < x)))
  | .geq => some (.bool (decide (y ≤ x)))
  | _ => none

def bltOp (b : Builtin) (l : Option (List Value)) : Option Value :=
  match b with
  | .min => match l with
    | some [.int .i64 x, .int .i64 y] => some (.int .i64 (min x y))
    | some [.int .i64 x, .int .i64 y, .int .i64 z] => some (.int .i64 (min (min x y) z))
    | _ => none
  | .max => match l with
    | some [.int .i64 x, .int .i64 y] => some (.int .i64 (max x y))
    | some [.int .i64 x, .int .i64 y, .int .i64 z] => some (.int .i64 (max (max x y) z))
    | _ => none
  | _ => none

def pureOp (fr : Fr) (op : Op) : Option Value :=
  match op with
  | .move x | .assign x => fr.ev x
  | .pick c x y => match fr.ev c with
    | some (.bool true) => fr.ev x
    | some (.bool false) => fr.ev y
    | _ => none
  | .binOp op _ x y _ => match fr.ev x, fr.ev y with
    | some (.int .i64 a), some (.int .i64 b) => binI op a b
    | _, _ => none
  | .unOp .neg _ x => match fr.ev x with
    | some (.int .i64 a) => some (.int .i64 (w64 (-a)))
    | _ => none
  | .unOp .not _ x => match fr.ev x with
    | some (.bool b) => some (.bool !b)
    | _ => none
  | .makeFunc fn first captured => fr.evK first.toList fun f => fr.evK captured.toList fun c => some (.func fn ⟨f⟩ ⟨c⟩)
  | .extract x i => match fr.ev x with
    | some (.tuple vs) => vs.toList[i]?
    | _ => none
  | .call c => match c.callee with
    | .builtin b => bltOp b (fr.evs c.args.toList)
    | _ => none
  | _ => none

theorem binI_run {P : Program} {w : World} {op : BinOp} {t : TypeId} {x y : Operand} {a b : Int} {v : Value} (h : binI op a b = some v) :
    (do eqGuard op t x y (.int .i64 a) (.int .i64 b); binOp op t (.int .i64 a) (.int .i64 b) : Sem Value).run P w = .ok v w := by
  cases op <;> simp [binI] at h <;> subst h <;> simp [eqGuard, binOp, Op.intArith, Op.intCmp, w64, bind, Sem.bind, pure] <;>
    first | rfl | (simp [Bool.eq_iff_iff, bne_iff_ne]) | skip

theorem pureOp_run {P : Program} {N : Sz} {w : World} {fr : Fr} {a : Act} (H : Has N fr a) {op : Op} {v : Value} (h : pureOp fr op = some v)
    (d : Option Tmp) (ty : TypeId) (pos : String) (af : Array Edge) (g : Option (Nat × Bool)) :
    (execOp a.eval ⟨d, op, ty, pos, af, g⟩).run P w = .ok (.value v) w := by
  unfold pureOp at h
  split at h
  · rename_i x; simp only [execOp, H.eval h]; rfl
  · rename_i x; simp only [execOp, H.eval h]; rfl
  · rename_i c x y
    split at h
    · rename_i hc; simp only [execOp, H.eval h, H.eval hc]; rfl
    · rename_i hc; simp only [execOp, H.eval h, H.eval hc]; rfl
    · cases h
  · rename_i op t x y yt
    split at h
    · rename_i a' b' hx hy
      simp only [execOp, H.eval hx, H.eval hy]
      have := binI_run (P := P) (w := w) (t := t) (x := x) (y := y) h
      show Sem.run P (Bind.bind (do eqGuard op t x y (.int .i64 a') (.int .i64 b'); binOp op t (.int .i64 a') (.int .i64 b') : Sem Value) (fun v => pure (Next.value v))) w = _
      rw [Sem.run_bind, this]
      rfl
    · cases h
  · rename_i t x
    split at h
    · rename_i b hx; simp at h; subst h; simp only [execOp, H.eval hx]; simp [Op.unary, Op.intArith, w64]
    · cases h
  · rename_i t x
    split at h
    · rename_i b hx; simp at h; subst h; simp only [execOp, H.eval hx]; simp [Op.unary]
    · cases h
  · rename_i fn first captured
    have h1 := H.evK _ _ _ h
    have h2 := H.evK _ _ _ h1
    simp at h2
    subst h2
    simp only [execOp]
    simp only [Instr.makeFunc]
    rw [← Array.toList_map, ← Array.toList_map]
    rfl
  · rename_i x i
    split at h
    · rename_i vs hx
      simp only [execOp, H.eval hx]
      simp [Instr.extract]
      simp at h
      rw [h]
      rfl
    · cases h
  · rename_i c
    split at h
    · rename_i b hb
      obtain ⟨callee, args, tys⟩ := c
      simp only at hb h
      subst hb
      have key : ∀ l, fr.evs args.toList = some l → args.toList.map a.eval = l := fun l e => H.evs e
      simp only [execOp, resolve]
      unfold bltOp at h
      split at h
      · split at h
        · rename_i x y he
          have hk := key _ he
          simp at h; subst h
          simp [invoke, builtin, Builtin.min_, hk, Builtin.min2]
          split <;> omega
        · rename_i x y z he
          have hk := key _ he
          simp at h; subst h
          simp [invoke, builtin, Builtin.min_, hk, Builtin.min2]
          split <;> split <;> omega
        · cases h
      · split at h
        · rename_i x y he
          have hk := key _ he
          simp at h; subst h
          simp [invoke, builtin, Builtin.max_, hk, Builtin.max2]
          split <;> omega
        · rename_i x y z he
          have hk := key _ he
          simp at h; subst h
          simp [invoke, builtin, Builtin.max_, hk, Builtin.max2]
          split <;> split <;> omega
        · cases h
      · cases h
    · cases h
  · cases h

/-! ## rules for lists of operations -/

def Fr.put (d : Option Tmp) (v : Value) (fr : Fr) : Fr :=
  match d with
  | some d => (d, v) :: fr
  | none => fr

def Fr.fits (N : Sz) (d : Option Tmp) : Bool :=
  match d with
  | some d => Nat.ble (d + 1) N.n
  | none => true

theorem Has.putO {N : Sz} {fr : Fr} {a : Act} (h : Has N fr a) {d : Option Tmp} (hd : Fr.fits N d = true) (v : Value) : Has N (fr.put d v) (a.put d v) := by
  cases d with
  | none => exact h
  | some d => exact h.put (Nat.le_of_ble_eq_true hd) v

/-- an operation that is no defer statement runs in a round as anywhere -/
theorem semAt_run {P : Program} {o : Oper} {ρ : Operand → Value} {w w' : World} {x : Next} (h : (execOp ρ o).run P w = .ok x w') (hx : ∀ d, x ≠ .defer d) (ro : Option Nat) : (Oper.semAt ro ρ o).run P w = .ok x w' := by
  by_cases hc : ∃ c, o.op = .defer c
  · exfalso
    obtain ⟨c, hc⟩ := hc
    unfold execOp at h
    rw [hc] at h
    simp only at h
    rw [Sem.run_bind] at h
    cases hr : (resolve ρ c o.type).run P w with
    | ok d w1 =>
      rw [hr] at h
      have h' : Result.ok (Next.defer d) w1 = Result.ok x w' := h
      cases h'
      exact hx d rfl
    | halt => rw [hr] at h; cases h
  · rw [Oper.semAt_eq ro ρ o (fun c hcc => hc ⟨c, hcc⟩)]
    exact h

section
variable {P : Program} {N : Sz} {ops : Array Oper} {Q : Exit → Act → World → Prop} {rest : List Oper} {fr : Fr} {w : World}

theorem JL.val {o : Oper} {v : Value} {w' : World} (hg : o.guard = none) (hd : Fr.fits N o.dst = true)
    (hr : ∀ a, Has N fr a → (execOp a.eval o).run P w = .ok (.value v) w')
    (k : JL P N ops Q rest (fr.put o.dst v) w') : JL P N ops Q (o :: rest) fr w := by
  intro a H
  refine wpListIn_plain hg fun K hK => ⟨fun _ _ => trivial, ?_⟩
  show o.uponIn (wideR N.ro) 0 P a K Q ((Oper.semAt N.ro a.eval o).run P w)
  rw [semAt_run (hr a H) (by simp)]
  exact hK _ _ (k _ (H.putO hd v))

theorem JL.unit {o : Oper} {w' : World} (hg : o.guard = none) (hd : o.dst = none)
    (hr : ∀ a, Has N fr a → (execOp a.eval o).run P w = .ok .skip w') (k : JL P N ops Q rest fr w') : JL P N ops Q (o :: rest) fr w := by
  intro a H
  refine wpListIn_plain hg fun K hK => ⟨fun _ _ => trivial, ?_⟩
  show o.uponIn (wideR N.ro) 0 P a K Q ((Oper.semAt N.ro a.eval o).run P w)
  rw [semAt_run (hr a H) (by simp)]
  refine hK _ _ (k _ ?_)
  rw [hd]; exact H

theorem JL.pure {d : Option Tmp} {op : Op} {ty : TypeId} {pos : String} {af : Array Edge} {v : Value} (hv : pureOp fr op = some v) (hd : Fr.fits N d = true)
    (k : JL P N ops Q rest (fr.put d v) w) : JL P N ops Q (⟨d, op, ty, pos, af, none⟩ :: rest) fr w :=
  JL.val rfl hd (fun a H => pureOp_run H hv _ _ _ _ _) k

theorem JL.nil (k : Ex N Q .normal fr w) : JL P N ops Q [] fr w := fun a H => k a H

theorem JL.sub {fr' : Fr} (hs : fr.sub fr') (k : JL P N ops Q rest fr' w) : JL P N ops Q rest fr w := fun _ H => k _ (H.sub hs)

/-- a guarded operation that is carried out -/
theorem JL.want {d : Option Tmp} {op : Op} {ty : TypeId} {pos : String} {af : Array Edge} {j : Nat} {b : Bool} {t : Tmp}
    (hj : (ops[j]?).bind (·.dst) = some t) (hv : fr.get t = some (.bool b))
    (k : JL P N ops Q (⟨d, op, ty, pos, af, none⟩ :: rest) fr w) : JL P N ops Q (⟨d, op, ty, pos, af, some (j, b)⟩ :: rest) fr w := by
  intro a H
  have hk := k a H
  unfold wpListIn at hk ⊢
  have h1 : yielded ops a.tmps j = some b := by simp [yielded, hj, H.get t _ hv]
  rw [if_pos (by simp [Region.wanted, h1])]
  rw [if_pos (by simp [Region.wanted])] at hk
  exact hk

/-- a guarded operation that is passed over -/
theorem JL.pass {d : Option Tmp} {op : Op} {ty : TypeId} {pos : String} {af : Array Edge} {j : Nat} {b c : Bool} {t : Tmp}
    (hj : (ops[j]?).bind (·.dst) = some t) (hv : fr.get t = some (.bool c)) (hne : (c == b) = false) (hd : Fr.fits N d = true)
    (k : JL P N ops Q rest (fr.put d undef) w) : JL P N ops Q (⟨d, op, ty, pos, af, some (j, b)⟩ :: rest) fr w := by
  intro a H
  unfold wpListIn
  have h1 : yielded ops a.tmps j = some c := by simp [yielded, hj, H.get t _ hv]
  rw [if_neg]
  · exact ⟨fun _ _ => trivial, k _ (H.putO hd _)⟩
  · simp only [Region.wanted, h1]
    cases b <;> cases c <;> simp_all

theorem Has.again {a : Act} {t : Nat} {v : Value} (H : Has N fr a) (hv : fr.get t = some v) : Has N ((t, v) :: fr) a := by
  refine ⟨H.size, H.defers, fun u x e => ?_⟩
  simp only [Fr.get] at e
  by_cases ht : t = u
  · subst ht; simp at e; subst e; exact H.get _ _ hv
  · have : Nat.beq t u = false := by
      cases hb : Nat.beq t u with
      | false => rfl
      | true => exact absurd (Nat.eq_of_beq_eq_true hb) ht
    rw [this] at e
    exact H.get u x (by simpa using e)

/-- .. whose guard was passed over itself -/
theorem JL.passU {d : Option Tmp} {op : Op} {ty : TypeId} {pos : String} {af : Array Edge} {j : Nat} {b : Bool} {t : Tmp}
    (hj : (ops[j]?).bind (·.dst) = some t) (hv : fr.get t = some undef) (hd : Fr.fits N d = true)
    (k : JL P N ops Q rest (fr.put d undef) w) : JL P N ops Q (⟨d, op, ty, pos, af, some (j, b)⟩ :: rest) fr w := by
  intro a H
  unfold wpListIn
  have h1 : yielded ops a.tmps j = none := by simp [yielded, hj, H.get t _ hv, undef]
  rw [if_neg]
  · exact ⟨fun _ _ => trivial, k _ (H.putO hd _)⟩
  · simp [Region.wanted, h1]

/-- a Bool of the frame, decided both ways -/
theorem JL.cases (t : Tmp) {b : Bool} (hv : fr.get t = some (.bool b)) (ht : b = true → JL P N ops Q rest ((t, .bool true) :: fr) w)
    (hf : b = false → JL P N ops Q rest ((t, .bool false) :: fr) w) : JL P N ops Q rest fr w := by
  intro a H
  have hh := H.again hv
  cases b with
  | true => exact ht rfl a hh
  | false => exact hf rfl a hh

/-- a slot's value in another spelling -/
theorem JL.re (t : Tmp) {v v' : Value} (hv : fr.get t = some v) (e : v = v') (k : JL P N ops Q rest ((t, v') :: fr) w) : JL P N ops Q rest fr w := by
  subst e
  exact fun a H => k a (H.again hv)

/-! ### types, loads, stores -/
end

/-- is a type a struct or an array; how many cells -/
def tySh (P : Program) (t : TypeId) : Option (Bool × Nat) :=
  match P.underlying t, P.info? t with
  | some d, some i => some (match d with | .struct _ | .array _ _ => true | _ => false, i.size)
  | _, _ => none

theorem tySh_agg {P : Program} {t : TypeId} {b : Bool} {n : Nat} (h : tySh P t = some (b, n)) (w : World) : (isAgg t).run P w = .ok b w ∧ (sizeOf t).run P w = .ok n w := by
  unfold tySh at h
  split at h
  · rename_i d i hd hi
    simp at h
    obtain ⟨h1, h2⟩ := h
    constructor
    · simp only [isAgg]
      rw [Sem.run_bind, run_underlying hd]
      simp only [Result.andThen]
      cases d <;> simp at h1 <;> subst h1 <;> rfl
    · simp [sizeOf, typeInfo, hi, h2]
  · cases h

def takeK {α : Type} : Nat → List Value → (List Value → Option α) → Option α
  | 0, _, k => k []
  | n + 1, x :: xs, k => takeK n xs fun l => k (x :: l)
  | _ + 1, [], _ => none

theorem takeK_eq {α : Type} {n : Nat} : ∀ {l : List Value} {k : List Value → Option α} {r : α}, takeK n l k = some r → k (l.take n) = some r ∧ n ≤ l.length := by
  induction n with
  | zero => intro l k r h; simpa [takeK] using h
  | succ n ih =>
    intro l k r h
    cases l with
    | nil => simp [takeK] at h
    | cons x xs => simp only [takeK] at h; have := ih h; simpa using this

def loadOf (cs : List Value) (off : Nat) (sh : Bool × Nat) : Option Value :=
  match sh with
  | (true, n) => takeK n (cs.drop off) fun l => some (.agg ⟨l⟩)
  | (false, _) => match cs.drop off with
    | x :: _ => some x
    | [] => none

/-- what stands in memory at a place, at a type of that shape -/
def LdAt (w : World) (β off : Nat) (sh : Bool × Nat) (v : Value) : Prop :=
  match sh with
  | (true, n) => ∃ l, v = .agg ⟨l⟩ ∧ l.length = n ∧ ∀ j u, l[j]? = some u → w.cell? ⟨β, off + j, none⟩ = some u
  | (false, _) => w.cell? ⟨β, off, none⟩ = some v

theorem LdAt.of_block {w : World} {β off : Nat} {sh : Bool × Nat} {v : Value} {cs : Array Value} {e : TypeId} {fz : Nat × Nat} (hb : w.heap[β]? = some (.cells cs e fz))
    (hl : loadOf cs.toList off sh = some v) : LdAt w β off sh v := by
  obtain ⟨b, n⟩ := sh
  cases b with
  | true =>
    obtain ⟨h1, h2⟩ := takeK_eq hl
    simp at h1
    subst h1
    refine ⟨_, rfl, by simp at h2 ⊢; omega, fun j u hj => ?_⟩
    rw [List.getElem?_take] at hj
    split at hj
    · simp at hj
      simpa [World.cell?, hb] using hj
    · cases hj
  | false =>
    simp only [loadOf] at hl
    split at hl
    · rename_i x xs he
      cases hl
      have : cs.toList[off]? = some v := by
        have := congrArg (·[0]?) he
        simpa using this
      simpa [LdAt, World.cell?, hb] using this
    · cases hl

theorem run_loadCellsFrom {P : Program} {w : World} {a : Addr} (n : Nat) : ∀ (i : Nat) (l : List Value) (acc : Array Value), l.length = n →
    (∀ j u, l[j]? = some u → w.cell? (a.add (i + j)) = some u) → (loadCellsFrom a i n acc).run P w = .ok ⟨acc.toList ++ l⟩ w := by
  induction n with
  | zero =>
    intro i l acc hl _
    have h0 : l = [] := by simpa using hl
    subst h0
    simp [loadCellsFrom]
  | succ n ih =>
    intro i l acc hl hc
    cases l with
    | nil => simp at hl
    | cons x xs =>
      have h0 : w.cell? (a.add i) = some x := by have := hc 0 x (by simp); simpa using this
      have := ih (i + 1) xs (acc.push x) (by simpa using hl) (fun j u hj => by have := hc (j + 1) u (by simpa using hj); rwa [show i + 1 + j = i + (j + 1) by omega])
      simp only [loadCellsFrom]
      rw [Sem.run_bind]
      have h1 : (load (a.add i)).run P w = .ok x w := by simp [load, Sem.run, h0]
      rw [h1]
      simp only [Result.andThen]
      rw [this]
      simp

theorem run_loadVar {P : Program} {w : World} {t : TypeId} {sh : Bool × Nat} {β off : Nat} {v : Value} (hs : tySh P t = some sh) (hl : LdAt w β off sh v) :
    (loadVar t ⟨β, off, none⟩).run P w = .ok v w := by
  obtain ⟨b, n⟩ := sh
  obtain ⟨h1, h2⟩ := tySh_agg hs w
  unfold loadVar
  rw [Sem.run_bind, h1]
  simp only [Result.andThen]
  cases b with
  | true =>
    obtain ⟨l, rfl, hn, hc⟩ := hl
    simp only [if_true]
    have := run_loadCellsFrom (P := P) (w := w) (a := ⟨β, off, none⟩) n 0 l #[] hn (fun j u hj => by
      have := hc j u hj
      simp only [Addr.add]
      split
      · rename_i h0; have : j = 0 := by omega
        subst this; simpa using hc 0 u hj
      · simpa using this)
    simp [loadCells, h2, Sem.run_bind, Result.andThen, this]
  | false =>
    have hl' : w.cell? ⟨β, off, none⟩ = some v := hl
    simp [load, Sem.run, hl']

/-! ### stores -/

/-- some cells of a row written anew -/
def setK {α : Type} : Nat → List Value → List Value → (List Value → Option α) → Option α
  | 0, [], cs, k => k cs
  | 0, v :: vs, _ :: cs, k => setK 0 vs cs fun l => k (v :: l)
  | o + 1, vs, x :: cs, k => setK o vs cs fun l => k (x :: l)
  | _, _ :: _, [], _ => none
  | _ + 1, [], [], _ => none

def oneV : Value → Bool
  | .agg _ | .tuple _ => false
  | _ => true

def allOne : List Value → Bool
  | [] => true
  | v :: r => oneV v && allOne r

theorem setK_eq {α : Type} : ∀ {o : Nat} {vs cs : List Value} {k : List Value → Option α} {r : α}, setK o vs cs k = some r →
    ∃ l, k l = some r ∧ l.length = cs.length ∧ o + vs.length ≤ cs.length ∧ ∀ j : Nat, l[j]? = if o ≤ j ∧ j < o + vs.length then vs[j - o]? else cs[j]? := by
  intro o
  induction o with
  | zero =>
    intro vs
    induction vs with
    | nil => intro cs k r h; exact ⟨cs, by simpa [setK] using h, rfl, by simp, fun j => by simp⟩
    | cons v vs ih =>
      intro cs k r h
      cases cs with
      | nil => simp [setK] at h
      | cons x xs =>
        simp only [setK] at h
        obtain ⟨l, h1, h2, h3, h4⟩ := ih h
        refine ⟨_, h1, by simp [h2], by simp at h3 ⊢; omega, fun j => ?_⟩
        cases j with
        | zero => simp
        | succ j => have := h4 j; simp at this ⊢; rw [this]
  | succ o ih =>
    intro vs cs k r h
    cases cs with
    | nil => cases vs <;> simp [setK] at h
    | cons x xs =>
      have h' : setK o vs xs (fun l => k (x :: l)) = some r := by cases vs <;> simpa [setK] using h
      obtain ⟨l, h1, h2, h3, h4⟩ := ih h'
      refine ⟨_, h1, by simp [h2], by simp at h3 ⊢; omega, fun j => ?_⟩
      cases j with
      | zero => simp
      | succ j =>
        have := h4 j
        simp only [List.getElem?_cons_succ]
        rw [this]
        by_cases hc : o ≤ j ∧ j < o + vs.length
        · rw [if_pos hc, if_pos (by omega)]; congr 1; omega
        · rw [if_neg hc, if_neg (by omega)]

theorem run_storeCells {P : Program} {e : TypeId} (vs : List Value) : ∀ (off i β : Nat) (w : World) (cs : Array Value), w.heap[β]? = some (.cells cs e (0, 0)) →
    allOne vs = true → off + i + vs.length ≤ cs.size →
    ∃ w' cs', (storeCells ⟨β, off, none⟩ vs i).run P w = .ok () w' ∧ w'.heap[β]? = some (.cells cs' e (0, 0)) ∧ cs'.size = cs.size ∧
      (∀ j : Nat, cs'[j]? = if off + i ≤ j ∧ j < off + i + vs.length then vs[j - (off + i)]? else cs[j]?) ∧ w'.os = w.os ∧ w'.tape = w.tape ∧ w'.output = w.output ∧
      w'.heap.size = w.heap.size ∧ ∀ k, k ≠ β → w'.heap[k]? = w.heap[k]? := by
  induction vs with
  | nil => intro off i β w cs hb _ _; exact ⟨w, cs, by simp [storeCells], hb, rfl, fun j => by rw [if_neg (by simp)], rfl, rfl, rfl, rfl, fun _ _ => rfl⟩
  | cons v vs ih =>
    intro off i β w cs hb ho hle
    simp only [List.length_cons] at hle
    have hone : oneV v = true ∧ allOne vs = true := by simpa [allOne] using ho
    have hadd : (⟨β, off, none⟩ : Addr).add i = ⟨β, off + i, none⟩ := by
      simp only [Addr.add]; split
      · rename_i h; subst h; rfl
      · rfl
    have hlt : off + i < cs.size := by omega
    have hcell : w.cell? ⟨β, off + i, none⟩ = some cs[off + i] := by simp [World.cell?, hb, hlt]
    have hfz : w.frozen? ⟨β, off + i, none⟩ = false := by simp [World.frozen?, hb]
    have hstore : (store ((⟨β, off, none⟩ : Addr).add i) v).run P w = .ok () (w.setCell ⟨β, off + i, none⟩ v) := by
      rw [hadd]
      have h1 := hone.1
      cases v <;> simp [oneV] at h1 <;> simp [store, Sem.run, hcell, hfz]
    have hb' : (w.setCell ⟨β, off + i, none⟩ v).heap[β]? = some (.cells (cs.setIfInBounds (off + i) v) e (0, 0)) := by simp [World.setCell, Array.getElem?_modify, hb]
    obtain ⟨w', cs', h1, h2, h3, h4, h5, h6, h7, h8, h9⟩ := ih off (i + 1) β _ _ hb' hone.2 (by simp; omega)
    refine ⟨w', cs', ?_, h2, by simpa using h3, fun j => ?_, h5, h6, h7, by simpa [World.setCell] using h8, fun k hk => ?_⟩
    · simp only [storeCells]
      rw [Sem.run_bind, hstore]
      exact h1
    · rw [h4 j]
      by_cases hc : off + (i + 1) ≤ j ∧ j < off + (i + 1) + vs.length
      · rw [if_pos hc, if_pos (by simp; omega)]
        rw [show j - (off + i) = (j - (off + (i + 1))) + 1 by omega]
        simp
      · rw [if_neg hc]
        by_cases hj : j = off + i
        · subst hj; rw [if_pos (by simp)]; simp [hlt]
        · rw [if_neg (by simp; omega)]; simp [show ¬ off + i = j by omega]
    · rw [h9 k hk]; exact Below.heap_setCell _ _ _ _ hk
end Go.J
