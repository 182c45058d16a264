/-
  Lemmas for the statements of this seat; no statement is proved here. No condition.
-/
import Derived.Test.YtfbmgmdjaoackaaJRules
import Derived.LoopN
namespace Go.J
set_option linter.unusedSimpArgs false
set_option linter.unusedVariables false
open Go.RowKit

def cellsL : Value → List Value
  | .agg ⟨l⟩ => l
  | v => [v]
def cellsO : Value → Option (List Value)
  | .agg ⟨l⟩ => some l
  | v => some [v]
theorem cellsO_eq {v : Value} {l : List Value} (h : cellsO v = some l) : v.cells = ⟨l⟩ := by
  cases v with
  | agg cs => simp [cellsO] at h; subst h; rfl
  | _ => simp [cellsO] at h; subst h; rfl
theorem cells_cellsL (v : Value) : v.cells = ⟨cellsL v⟩ := by cases v <;> rfl

def setLK {α : Type} (x : HP) : Nat → List HP → (List HP → Option α) → Option α
  | 0, _ :: r, k => k (x :: r)
  | i + 1, y :: r, k => setLK x i r fun l => k (y :: l)
  | _, [], _ => none
theorem setLK_eq {α : Type} {x : HP} : ∀ {i : Nat} {L : List HP} {k : List HP → Option α} {r : α}, setLK x i L k = some r → k (L.set i x) = some r := by
  intro i
  induction i with
  | zero => intro L k r h; cases L <;> simp_all [setLK]
  | succ i ih => intro L k r h; cases L with
    | nil => simp [setLK] at h
    | cons y L => simp only [setLK] at h; simpa using ih h

def fOff (fs : Array Field) (i : Nat) : Option (Nat × TypeId) :=
  match fs.toList[i]? with
  | some ⟨_, t, o, _, _, _, _⟩ => some (o, t)
  | none => none

def tyZero (P : Program) (t : TypeId) : Option (List Value) :=
  match P.info? t with
  | some i => match i.zero with
    | some z => cellsO z
    | none => none
  | none => none

theorem tyZero_run {P : Program} {t : TypeId} {l : List Value} (h : tyZero P t = some l) (w : World) : ∃ z, (zeroValue t).run P w = .ok z w ∧ z.cells = ⟨l⟩ := by
  unfold tyZero at h
  split at h
  · rename_i i hi
    split at h
    · rename_i z hz
      exact ⟨z, by simp [zeroValue, typeInfo, hi, hz], cellsO_eq h⟩
    · cases h
  · cases h

section
variable {P : Program} {N : Sz} {ops : Array Oper} {Q : Exit → Act → World → Prop} {rest : List Oper} {fr : Fr} {w w0 : World} {L : List HP}
  {d : Option Tmp} {ty : TypeId} {pos : String} {af : Array Edge}

theorem JL.load {x : Operand} {t : TypeId} {β off : Nat} {sh : Bool × Nat} {v : Value} (hx : fr.ev x = some (.pointer (some ⟨β, off, none⟩))) (hs : tySh P t = some sh)
    (hl : LdAt w β off sh v) (hd : Fr.fits N d = true) (k : JL P N ops Q rest (fr.put d v) w) : JL P N ops Q (⟨d, .load t x, ty, pos, af, none⟩ :: rest) fr w :=
  JL.val rfl hd (fun a H => by
    simp only [execOp, H.eval hx]
    simp [Instr.loadAt, Instr.sureAddr, run_loadVar hs hl]) k

theorem JL.loadB {x : Operand} {t : TypeId} {β off : Nat} {sh : Bool × Nat} {v : Value} {cs : Array Value} {e : TypeId} {fz : Nat × Nat} (i : Nat) (H : Own w0 w L)
    (hx : fr.ev x = some (.pointer (some ⟨β, off, none⟩))) (hs : tySh P t = some sh) (hi : L[i]? = some (blk β (.cells cs e fz)))
    (hl : loadOf cs.toList off sh = some v) (hd : Fr.fits N d = true) (k : JL P N ops Q rest (fr.put d v) w) : JL P N ops Q (⟨d, .load t x, ty, pos, af, none⟩ :: rest) fr w :=
  JL.load hx hs (LdAt.of_block (H.get hi).2 hl) hd k

theorem JL.box {x : Operand} {t : TypeId} {v : Value} {cs : List Value} (H : Own w0 w L) (hx : fr.ev x = some v) (hc : cellsO v = some cs) (hd : Fr.fits N d = true)
    (k : ∀ β w', Own w0 w' (blk β (.cells ⟨cs⟩ t (0, 0)) :: L) → JL P N ops Q rest (fr.put d (.pointer (some ⟨β, 0, none⟩))) w') :
    JL P N ops Q (⟨d, .box t x, ty, pos, af, none⟩ :: rest) fr w :=
  JL.val rfl hd (fun a H => by
    simp only [execOp, H.eval hx]
    simp [Instr.box, newVar, newRow, cellsO_eq hc, newObj, Sem.run]) (k w.heap.size (w.alloc (.cells ⟨cs⟩ t (0, 0))) (H.new _))

theorem JL.alloc {t : TypeId} {cs : List Value} (H : Own w0 w L) (hz : tyZero P t = some cs) (hd : Fr.fits N d = true)
    (k : ∀ β w', Own w0 w' (blk β (.cells ⟨cs⟩ t (0, 0)) :: L) → JL P N ops Q rest (fr.put d (.pointer (some ⟨β, 0, none⟩))) w') :
    JL P N ops Q (⟨d, .alloc t, ty, pos, af, none⟩ :: rest) fr w := by
  obtain ⟨z, h1, h2⟩ := tyZero_run hz w
  refine JL.val rfl hd (fun a H => ?_) (k w.heap.size (w.alloc (.cells ⟨cs⟩ t (0, 0))) (H.new _))
  simp only [execOp]
  simp [Instr.alloc, h1, newVar, newRow, newObj, Sem.run, h2]

theorem JL.storeB {x y : Operand} {t : TypeId} {β off n : Nat} {b : Bool} {v : Value} {cs : List Value} {cs' : List Value} {e : TypeId} {L' : List HP} (i : Nat) (H : Own w0 w L)
    (hx : fr.ev x = some (.pointer (some ⟨β, off, none⟩))) (hy : fr.ev y = some v) (hs : tySh P t = some (b, n)) (hi : L[i]? = some (blk β (.cells ⟨cs⟩ e (0, 0))))
    (hn : (cellsL v).length = n) (h1 : allOne (cellsL v) = true) (hset : setK off (cellsL v) cs some = some cs') (hL : setLK (blk β (.cells ⟨cs'⟩ e (0, 0))) i L some = some L')
    (k : ∀ w', Own w0 w' L' → JL P N ops Q rest fr w') : JL P N ops Q (⟨none, .store t x y, ty, pos, af, none⟩ :: rest) fr w := by
  obtain ⟨l, e1, e2, e3, e4⟩ := setK_eq hset
  simp at e1
  subst e1
  have hb := (H.get hi).2
  obtain ⟨w', cs'', g1, g2, g3, g4, g5, g6, g7, g8, g9⟩ := run_storeCells (P := P) (cellsL v) off 0 β w ⟨cs⟩ hb h1 (by simpa using e3)
  have hcs : cs'' = ⟨l⟩ := by
    apply Array.ext'
    apply List.ext_getElem?
    intro j
    have := g4 j
    simp at this
    simp only [List.getElem?_toArray] at *
    rw [e4 j]
    simpa using this
  subst hcs
  have hL' := setLK_eq hL
  simp at hL'
  subst hL'
  refine JL.unit rfl rfl (fun a Ha => ?_) (k w' (H.put hi _ g5 g6 g7 (by omega) (fun k hk _ => g9 k hk) g2))
  simp only [execOp, Ha.eval hx, Ha.eval hy]
  simp [Instr.storeAt, Instr.sureAddr, storeVar, (tySh_agg hs w).2, cells_cellsL v, hn, g1]

theorem JL.fieldAddr {x : Operand} {t u : TypeId} {f β off o n : Nat} {b : Bool} {fs : Array Field} (hx : fr.ev x = some (.pointer (some ⟨β, off, none⟩))) (hu : P.underlying t = some (.struct fs))
    (hf : fOff fs f = some (o, u)) (hs : tySh P u = some (b, n + 1)) (hd : Fr.fits N d = true)
    (k : JL P N ops Q rest (fr.put d (.pointer (some ⟨β, off + o, none⟩))) w) : JL P N ops Q (⟨d, .fieldAddr t x f, ty, pos, af, none⟩ :: rest) fr w :=
  JL.val rfl hd (fun a H => by
    simp only [execOp, H.eval hx]
    unfold fOff at hf
    split at hf
    · rename_i g1 g2 g3 g4 g5 g6 g7 hg
      cases hf
      have hg' : fs[f]? = some ⟨g1, u, o, g4, g5, g6, g7⟩ := by simpa using hg
      simp [Instr.fieldAt, run_underlying hu, hg', Instr.sureAddr, fieldPlace, (tySh_agg hs w).2, Addr.add]
    · cases hf) k

theorem JL.indexS {x ix : Operand} {t e : TypeId} {β off len cap sz : Nat} {b : Bool} {n : Int} (j : Nat) (hx : fr.ev x = some (.slice (some ⟨β, off, none⟩) len cap)) (hi : fr.ev ix = some (.int .i64 n))
    (hu : P.underlying t = some (.slice e)) (hs : tySh P e = some (b, sz)) (hn : n = (j : Int)) (hj : j < len) (hd : Fr.fits N d = true)
    (k : JL P N ops Q rest (fr.put d (.pointer (some ⟨β, off + j * sz, none⟩))) w) : JL P N ops Q (⟨d, .indexAddr t x ix, ty, pos, af, none⟩ :: rest) fr w :=
  JL.val rfl hd (fun a H => by
    subst hn
    simp only [execOp, H.eval hx, H.eval hi]
    simp [Instr.indexAt, asIntOf, run_underlying hu, hj, (tySh_agg hs w).2, Addr.add]) k

theorem JL.indexA {x ix : Operand} {t e : TypeId} {β off len sz : Nat} {b : Bool} {n : Int} (j : Nat) (hx : fr.ev x = some (.pointer (some ⟨β, off, none⟩))) (hi : fr.ev ix = some (.int .i64 n))
    (hu : P.underlying t = some (.array len e)) (hs : tySh P e = some (b, sz)) (hn : n = (j : Int)) (hj : j < len) (hd : Fr.fits N d = true)
    (k : JL P N ops Q rest (fr.put d (.pointer (some ⟨β, off + j * sz, none⟩))) w) : JL P N ops Q (⟨d, .indexAddr t x ix, ty, pos, af, none⟩ :: rest) fr w :=
  JL.val rfl hd (fun a H => by
    subst hn
    simp only [execOp, H.eval hx, H.eval hi]
    simp [Instr.indexAt, asIntOf, run_underlying hu, hj, (tySh_agg hs w).2, Addr.add, Instr.sureAddr]) k

theorem JL.len {x : Operand} {t e : TypeId} {a0 : Option Addr} {n c : Nat} (hx : fr.ev x = some (.slice a0 n c)) (hu : P.underlying t = some (.slice e)) (hd : Fr.fits N d = true)
    (k : JL P N ops Q rest (fr.put d (.int .i64 n)) w) : JL P N ops Q (⟨d, .call ⟨.builtin .len, #[x], #[t]⟩, ty, pos, af, none⟩ :: rest) fr w :=
  JL.val rfl hd (fun a H => by
    simp only [execOp, resolve]
    simp [H.eval hx, invoke, builtin, Builtin.len_, run_underlying hu, goInt]) k

theorem JL.quo {t yt : TypeId} {x y : Operand} {a b : Int} (hx : fr.ev x = some (.int .i64 a)) (hy : fr.ev y = some (.int .i64 b)) (hb : b ≠ 0) (hd : Fr.fits N d = true)
    (k : JL P N ops Q rest (fr.put d (.int .i64 (w64 (a.tdiv b)))) w) : JL P N ops Q (⟨d, .binOp .quo t x y yt, ty, pos, af, none⟩ :: rest) fr w :=
  JL.val rfl hd (fun a H => by
    simp only [execOp, H.eval hx, H.eval hy]
    simp [eqGuard, binOp, Op.intDiv, hb, w64]) k

theorem JL.rem {t yt : TypeId} {x y : Operand} {a b : Int} (hx : fr.ev x = some (.int .i64 a)) (hy : fr.ev y = some (.int .i64 b)) (hb : b ≠ 0) (hd : Fr.fits N d = true)
    (k : JL P N ops Q rest (fr.put d (.int .i64 (a.tmod b))) w) : JL P N ops Q (⟨d, .binOp .rem t x y yt, ty, pos, af, none⟩ :: rest) fr w :=
  JL.val rfl hd (fun a H => by
    simp only [execOp, H.eval hx, H.eval hy]
    simp [eqGuard, binOp, Op.intDiv, hb]) k

theorem JL.quoP {t yt : TypeId} {x y : Operand} {a b : Int} (hx : fr.ev x = some (.int .i64 a)) (hy : fr.ev y = some (.int .i64 b)) (ha : 0 ≤ a) (hb : 1 ≤ b) (hi : a ≤ 9223372036854775807) (hd : Fr.fits N d = true)
    (k : JL P N ops Q rest (fr.put d (.int .i64 (a / b))) w) : JL P N ops Q (⟨d, .binOp .quo t x y yt, ty, pos, af, none⟩ :: rest) fr w := by
  refine JL.quo hx hy (by omega) hd ?_
  have h1 : a.tdiv b = a / b := Int.tdiv_eq_ediv_of_nonneg ha
  have h2 : 0 ≤ a / b := Int.ediv_nonneg ha (by omega)
  have h3 : a / b ≤ a := Int.ediv_le_self _ ha
  rw [h1, w64_id ⟨by omega, by omega⟩]
  exact k
theorem JL.remP {t yt : TypeId} {x y : Operand} {a b : Int} (hx : fr.ev x = some (.int .i64 a)) (hy : fr.ev y = some (.int .i64 b)) (ha : 0 ≤ a) (hb : 1 ≤ b) (hd : Fr.fits N d = true)
    (k : JL P N ops Q rest (fr.put d (.int .i64 (a % b))) w) : JL P N ops Q (⟨d, .binOp .rem t x y yt, ty, pos, af, none⟩ :: rest) fr w := by
  refine JL.rem hx hy (by omega) hd ?_
  rw [Int.tmod_eq_emod_of_nonneg ha]
  exact k

/-- sums, differences and products that fit -/
theorem JL.arith {t yt : TypeId} {x y : Operand} {op : BinOp} {n : Int} (hv : pureOp fr (.binOp op t x y yt) = some (.int .i64 (w64 n))) (hn : In64 n) (hd : Fr.fits N d = true)
    (k : JL P N ops Q rest (fr.put d (.int .i64 n)) w) : JL P N ops Q (⟨d, .binOp op t x y yt, ty, pos, af, none⟩ :: rest) fr w :=
  JL.pure (by rw [hv, w64_id hn]) hd k
theorem JL.neg {t : TypeId} {x : Operand} {n : Int} (hv : pureOp fr (.unOp .neg t x) = some (.int .i64 (w64 n))) (hn : In64 n) (hd : Fr.fits N d = true)
    (k : JL P N ops Q rest (fr.put d (.int .i64 n)) w) : JL P N ops Q (⟨d, .unOp .neg t x, ty, pos, af, none⟩ :: rest) fr w :=
  JL.pure (by rw [hv, w64_id hn]) hd k

theorem JL.conv {s t : TypeId} {x : Operand} {k0 k1 : IntKind} {ds : TypeDesc} {n : Int} (hx : fr.ev x = some (.int k0 n)) (hs : P.underlying s = some ds) (hu : P.underlying t = some (.int k1)) (hd : Fr.fits N d = true)
    (k : JL P N ops Q rest (fr.put d (.int k1 (k1.wrap n))) w) : JL P N ops Q (⟨d, .convert s t x, ty, pos, af, none⟩ :: rest) fr w :=
  JL.val rfl hd (fun a H => by
    simp only [execOp, H.eval hx]
    simp [convert, run_underlying hs, run_underlying hu, Conv.intToInt]) k

/-- a function that can be entered -/
def hasBody (P : Program) (f : FuncId) : Bool :=
  match P.funcs[f]? with
  | some fn => !(fn.name == "runtime.NumGoroutine") && !fn.body.isNone
  | none => false

theorem callFunc_run {P : Program} {f : FuncId} (h : hasBody P f = true) (args : Array Value) (w : World) : (callFunc f args).run P w = .ok (.enter f args) w := by
  unfold hasBody at h
  split at h
  · rename_i fn hfn
    simp only [Bool.and_eq_true, Bool.not_eq_true', beq_eq_false_iff_ne] at h
    have h1 : (fn.name == "runtime.NumGoroutine") = false := by simpa using h.1
    simp only [callFunc, bind, Sem.bind, program, Sem.run, hfn, h1, h.2]
    rfl
  · cases h

theorem JL.enter {o : Oper} {f : FuncId} {args : Array Value} {R : Ending → World → Prop} (hg : o.guard = none) (hd : Fr.fits N o.dst = true)
    (hr : ∀ a, Has N fr a → (execOp a.eval o).run P w = .ok (.enter f args) w) (hc : Calls P f args w R)
    (k : ∀ e w', R e w' → ∃ v, e = .returned v ∧ JL P N ops Q rest (fr.put o.dst v) w') : JL P N ops Q (o :: rest) fr w := by
  intro a H
  refine wpListIn_plain hg fun K hK => ⟨fun _ _ => trivial, ?_⟩
  show o.uponIn (wideR N.ro) 0 P a K Q ((Oper.semAt N.ro a.eval o).run P w)
  rw [semAt_run (hr a H) (by simp)]
  refine ⟨fun h => by simp [wideR] at h, callsIn_wide.2 (hc.mono fun e w' he => ?_)⟩
  obtain ⟨v, rfl, hk⟩ := k e w' he
  exact hK _ _ (hk _ (H.putO hd v))

theorem JL.call {f : FuncId} {xs : Array Operand} {tys : Array TypeId} {vs : List Value} {R : Ending → World → Prop} (hb : hasBody P f = true) (hx : fr.evs xs.toList = some vs) (hd : Fr.fits N d = true)
    (hc : Calls P f vs.toArray w R) (k : ∀ e w', R e w' → ∃ v, e = .returned v ∧ JL P N ops Q rest (fr.put d v) w') :
    JL P N ops Q (⟨d, .call ⟨.value (.func f), xs, tys⟩, ty, pos, af, none⟩ :: rest) fr w :=
  JL.enter rfl hd (fun a H => by
    have h1 : (xs.map a.eval) = vs.toArray := by
      apply Array.ext'
      rw [Array.toList_map, H.evs hx]
    simp only [execOp, resolve]
    simp [Act.eval, Deferred.ofValue, h1, invoke, callFunc_run hb]) hc k

theorem JL.callv {f : FuncId} {x : Operand} {first capt : List Value} {xs : Array Operand} {tys : Array TypeId} {vs : List Value} {R : Ending → World → Prop}
    (hf : fr.ev x = some (.func (.func f) ⟨first⟩ ⟨capt⟩)) (hb : hasBody P f = true) (hx : fr.evs xs.toList = some vs) (hd : Fr.fits N d = true)
    (hc : Calls P f (first ++ vs ++ capt).toArray w R) (k : ∀ e w', R e w' → ∃ v, e = .returned v ∧ JL P N ops Q rest (fr.put d v) w') :
    JL P N ops Q (⟨d, .call ⟨.value x, xs, tys⟩, ty, pos, af, none⟩ :: rest) fr w :=
  JL.enter rfl hd (fun a H => by
    have h1 : (xs.map a.eval) = vs.toArray := by
      apply Array.ext'
      rw [Array.toList_map, H.evs hx]
    simp only [execOp, resolve]
    simp [H.eval hf, Deferred.ofValue, h1, invoke, callFunc_run hb]) hc k

theorem JL.nilCheck {x : Operand} {a0 : Addr} (hx : fr.ev x = some (.pointer (some a0))) (hd : Fr.fits N d = true)
    (k : JL P N ops Q rest (fr.put d (.pointer (some a0))) w) : JL P N ops Q (⟨d, .nilCheck x, ty, pos, af, none⟩ :: rest) fr w :=
  JL.val rfl hd (fun a H => by simp only [execOp, H.eval hx]; simp) k

end

/-! ## rules for code -/
section
variable {P : Program} {N : Sz} {Q : Exit → Act → World → Prop} {fr : Fr} {w : World}

theorem JC.seq {x y : Code} (k : JC P N x (Exit.then (fun a w => y.wpIn (wideR N.ro) 0 P Q a w) Q) fr w) : JC P N (.seq x y) Q fr w := fun a H => wpIn_seq (k a H)
theorem JC.skip (k : Ex N Q .normal fr w) : JC P N .skip Q fr w := fun a H => wpIn_skip (k a H)
theorem JC.exit {id : Nat} (k : Ex N Q (.exit id) fr w) : JC P N (.exit id) Q fr w := fun a H => wpIn_exit (k a H)
theorem JC.ret (k : Ex N Q .ret fr w) : JC P N .ret Q fr w := fun a H => wpIn_ret (k a H)
theorem JC.block {id : Nat} {c : Code} (k : JC P N c (Exit.inBlock id Q) fr w) : JC P N (.block id c) Q fr w := fun a H => wpIn_block (k a H)
theorem JC.region {id : Nat} {ops : Array Oper} (k : JL P N ops Q ops.toList fr w) : JC P N (.region id ops false) Q fr w := fun a H => wpIn_region_list (k a H)
theorem JC.cond {c : Operand} {x y : Code} {b : Bool} (hv : fr.ev c = some (.bool b)) (ht : b = true → JC P N x Q fr w) (hf : b = false → JC P N y Q fr w) :
    JC P N (.cond c x y) Q fr w := fun a H => wpIn_cond_split (H.eval hv) (fun h => ht h a H) (fun h => hf h a H)
theorem JC.sub {c : Code} {fr' : Fr} (hs : fr.sub fr') (k : JC P N c Q fr' w) : JC P N c Q fr w := fun _ H => k _ (H.sub hs)

theorem Ex.next {y : Code} {Q' : Exit → Act → World → Prop} (k : JC P N y Q' fr w) : Ex N (Exit.then (fun a w => y.wpIn (wideR N.ro) 0 P Q' a w) Q) .normal fr w := k
theorem Ex.ret_then {K : Act → World → Prop} (k : Ex N Q .ret fr w) : Ex N (Exit.then K Q) .ret fr w := k
theorem Ex.ret_block {id : Nat} (k : Ex N Q .ret fr w) : Ex N (Exit.inBlock id Q) .ret fr w := k
theorem Ex.normal_block {id : Nat} (k : Ex N Q .normal fr w) : Ex N (Exit.inBlock id Q) .normal fr w := k
theorem Ex.exit_then {K : Act → World → Prop} {i : Nat} (k : Ex N Q (.exit i) fr w) : Ex N (Exit.then K Q) (.exit i) fr w := k
theorem Ex.exit_hit {i : Nat} (k : Ex N Q .normal fr w) : Ex N (Exit.inBlock i Q) (.exit i) fr w := fun a H => by simp only [Exit.inBlock, if_true]; exact k a H
theorem Ex.exit_miss {i j : Nat} (h : i ≠ j) (k : Ex N Q (.exit i) fr w) : Ex N (Exit.inBlock j Q) (.exit i) fr w := fun a H => by simp only [Exit.inBlock]; rw [if_neg h]; exact k a H
theorem Ex.sub {e : Exit} {fr' : Fr} (hs : fr.sub fr') (k : Ex N Q e fr' w) : Ex N Q e fr w := fun _ H => k _ (H.sub hs)
theorem Ex.again {ι : Type} {F : ι → Fr} {I : ι → World → Prop} {m : ι → Nat} {x : ι} (x' : ι) (hs : fr.sub (F x')) (hI : I x' w) (hm : m x' < m x) :
    Ex N (Exit.then (fun a w' => ∃ x', Has N (F x') a ∧ I x' w' ∧ m x' < m x) Q) .normal fr w := fun _ H => ⟨x', H.sub hs, hI, hm⟩

/-- a loop: x: what the invariant speaks of -/
theorem JC.loop {ι : Type} {c : Code} (F : ι → Fr) (I : ι → World → Prop) (m : ι → Nat) (x0 : ι) (h0 : fr.sub (F x0)) (hI : I x0 w)
    (round : ∀ x w, I x w → JC P N c (Exit.then (fun a w' => ∃ x', Has N (F x') a ∧ I x' w' ∧ m x' < m x) Q) (F x) w) : JC P N (.loop c) Q fr w := by
  intro a H
  have key : ∀ n x a w, m x < n → Has N (F x) a → I x w → Code.roundsIn (wideR N.ro) 0 P c Q n a w := by
    intro n
    induction n with
    | zero => intro x a w h; omega
    | succ n ih =>
      intro x a w h Ha Hw
      rw [roundsIn_succ]
      refine Code.wpIn_mono (fun e a' w' q => ?_) (round x w Hw a Ha)
      cases e with
      | normal => obtain ⟨x', h1, h2, h3⟩ := q; exact ih x' a' w' (by omega) h1 h2
      | _ => exact q
  exact wpIn_loop_rounds (m x0 + 1) (key _ x0 a w (by omega) (H.sub h0) hI)
end
end Go.J
