/-
  Lemmas for the statements of this seat; no statement is proved here. No condition.
-/
import Derived.Test.YtfbmgmdjaoackaaJTab
import Derived.Test.YtfbmgmdjaoackaaJRow
import Derived.Laws.StructEq
namespace Go.J
set_option linter.unusedSimpArgs false
set_option linter.unusedVariables false
open Go.RowKit Go.Proofs
set_option maxRecDepth 8000
section
variable {P : Program} {N : Sz} {ops : Array Oper} {Q : Exit → Act → World → Prop} {rest : List Oper} {fr : Fr} {w w0 : World} {L : List HP}
  {d : Option Tmp} {ty : TypeId} {pos : String} {af : Array Edge}
theorem JL.buildA {t e : TypeId} {n sz : Nat} {b : Bool} {ps : Array (Nat × Operand)} {z cs : List Value} (hu : P.underlying t = some (.array n e)) (hs : tySh P e = some (b, sz)) (hz : tyZero P t = some z)
    (hc : fillK fr (fun i => some (i * sz, sz)) ps.toList z = some cs) (hd : Fr.fits N d = true) (k : JL P N ops Q rest (fr.put d (.agg ⟨cs⟩)) w) : JL P N ops Q (⟨d, .build t ps, ty, pos, af, none⟩ :: rest) fr w := by
  refine JL.val rfl hd (fun a H => ?_) k
  obtain ⟨zv, h1, h2⟩ := tyZero_run hz w
  have hf := fillK_eq H hc
  have e1 : (Array.map (fun (p : Nat × Operand) => (p.1, a.eval p.2)) ps).toList = ps.toList.map fun p => (p.1, a.eval p.2) := by simp
  simp only [execOp, Instr.build]
  rw [Sem.run_bind, Sem.run_bind, h1]
  simp only [Result.andThen]
  rw [Sem.run_bind, run_underlying hu]
  simp only [Result.andThen]
  rw [Sem.run_bind, (tySh_agg hs w).2]
  simp only [Result.andThen, h2, e1]
  have hf' : Instr.fill (fun i => some (i * sz, sz)) ⟨z⟩ (ps.toList.map fun p => (p.1, a.eval p.2)) = some ⟨cs⟩ := by simpa using hf
  rw [hf']
  rfl
end
theorem JD.buildA {P : Program} {N : Sz} {ops : Array Oper} {Q : Exit → Act → World → Prop} {n : Nat} {es : List Nat} {Ls : Nat → List HP} {w0 : World} {fr0 : Nat → Fr} {Z : Fr → World → Prop} {d : Option Tmp} {ty : TypeId} {pos : String} {af : Array Edge} {r : List Oper} {i : Nat} {ks : List Kn}
    {t e : TypeId} {m sz : Nat} {b : Bool} {ps : Array (Nat × Operand)} {z cs : List Value} (hu : P.underlying t = some (.array m e)) (hs : tySh P e = some (b, sz)) (hz : tyZero P t = some z)
    (hc : fillK (frDet (depsOf af) ks (fr0 i)) (fun i => some (i * sz, sz)) ps.toList z = some cs) (hd : Fr.fits N d = true) (k : JD P N ops Q n es Ls w0 fr0 Z r (i + 1) (.det i d (.agg ⟨cs⟩) :: ks))
    (he : neB es i = true := by rfl) (hs0 : noS ks i = true := by rfl) : JD P N ops Q n es Ls w0 fr0 Z (⟨d, .build t ps, ty, pos, af, none⟩ :: r) i ks :=
  JD.det _ he hs0 (fun _ _ _ _ _ => JL.buildA hu hs hz hc hd (JL.one (o := ⟨d, .build t ps, ty, pos, af, none⟩) (Below.refl _ _))) k
theorem za195 : tyZero Try.prog 195 = some (List.replicate 256 (.slice none 0 0)) := by kernel_rfl
def tab0 : Tab := List.replicate 256 []
theorem Own.nilRows {w0 w : World} {L : List HP} (H : Own w0 w L) : ∀ n, Own w0 w (List.replicate n (spRow (.slice none 0 0) []) ++ L) := by
  intro n
  induction n with
  | zero => simpa using H
  | succ n ih => rw [List.replicate_succ]; exact ih.nilRow 306 2
theorem Own.newT {w0 w : World} {L : List HP} {β : Nat} (H : Own w0 w (blk β (.cells ⟨List.replicate 256 (.slice none 0 0)⟩ 195 (0, 0)) :: L)) : Own w0 w (tbl β tab0 :: L) := by
  refine Own.closeT (vs := List.replicate 256 (.slice none 0 0)) (by simp) (by simp [tab0]) ?_
  have h1 := H.nilRows 256
  have h2 := h1.perm (List.perm_middle)
  have : rowsL (List.replicate 256 (.slice none 0 0)) tab0 = List.replicate 256 (spRow (.slice none 0 0) []) := by
    unfold rowsL tab0
    rw [List.zipWith_replicate, Nat.min_self]
  rw [this]
  exact h2

def capOK : Value → Prop
  | .slice _ n c => n ≤ c
  | _ => True
theorem Sl.tail {α : Type} {ev : α → Value} {b : Bool} {sz n cap β off : Nat} {w : World} {x : α} {xs : List α} (h : Sl ev (b, sz) w (.slice (some ⟨β, off, none⟩) n cap) (x :: xs)) (hc : n ≤ cap) :
    Sl ev (b, sz) w (.slice (some (if cap = 1 then ⟨β, off, none⟩ else ⟨β, off + 1 * sz, none⟩)) (n - 1) (cap - 1)) xs := by
  obtain ⟨h1, a, c, h2, h3⟩ := h
  cases h2
  refine ⟨by simp at h1; omega, _, _, rfl, ?_⟩
  rcases h3 with h3 | ⟨β', off', h4, h5, h6⟩
  · cases h3
  · cases h4
    by_cases hxs : xs = []
    · exact .inl hxs
    · right
      have hl : 0 < xs.length := List.length_pos_iff.2 hxs
      rw [if_neg (by simp at hc; omega)]
      refine ⟨β, off + 1 * sz, rfl, h5, fun i y hy => ?_⟩
      have := h6 (i + 1) y (by simpa using hy)
      rw [show off + 1 * sz + i * sz = off + (i + 1) * sz by rw [Nat.add_mul]; omega]
      exact this
section
variable {P : Program} {N : Sz} {ops : Array Oper} {Q : Exit → Act → World → Prop} {rest : List Oper} {fr : Fr} {w w0 : World} {L : List HP}
  {d : Option Tmp} {ty : TypeId} {pos : String} {af : Array Edge}
theorem run_slice1 {t e : TypeId} {β off n cap sz : Nat} {b : Bool} {k : IntKind} (hu : P.underlying t = some (.slice e)) (hs : tySh P e = some (b, sz)) (hn : 1 ≤ n) :
    (Instr.slice t (.slice (some ⟨β, off, none⟩) n cap) (some (.int k 1)) none none).run P w = .ok (.slice (some (if cap = 1 then ⟨β, off, none⟩ else ⟨β, off + 1 * sz, none⟩)) (n - 1) (cap - 1)) w := by
  have hn' : (1 : Int) ≤ (n : Int) := by omega
  simp only [Instr.slice]
  rw [Sem.run_bind, run_underlying hu]
  simp only [Result.andThen]
  simp [Instr.sliceBounds, Instr.sliceBound, asIntOf, hn', (tySh_agg hs w).2, Addr.add]
  by_cases hc : cap = 1
  · simp [hc]
  · simp [hc]
theorem JL.slice1 {x y : Operand} {t e : TypeId} {β off n cap sz : Nat} {b : Bool} {kd : IntKind} (hx : fr.ev x = some (.slice (some ⟨β, off, none⟩) n cap)) (hy : fr.ev y = some (.int kd 1)) (hu : P.underlying t = some (.slice e)) (hs : tySh P e = some (b, sz)) (hn : 1 ≤ n) (hd : Fr.fits N d = true)
    (k : JL P N ops Q rest (fr.put d (.slice (some (if cap = 1 then ⟨β, off, none⟩ else ⟨β, off + 1 * sz, none⟩)) (n - 1) (cap - 1))) w) : JL P N ops Q (⟨d, .slice t x (some y) none none, ty, pos, af, none⟩ :: rest) fr w :=
  JL.val rfl hd (fun a H => by
    simp only [execOp, Option.map_some, Option.map_none, H.eval hx, H.eval hy]
    simp only [Instr.sliceAt]
    rw [Sem.run_bind, Sem.run_bind, run_underlying hu]
    simp only [Result.andThen]
    rw [run_slice1 hu hs hn]
    rfl) k
end
theorem JD.slice1 {P : Program} {N : Sz} {ops : Array Oper} {Q : Exit → Act → World → Prop} {n : Nat} {es : List Nat} {Ls : Nat → List HP} {w0 : World} {fr0 : Nat → Fr} {Z : Fr → World → Prop} {d : Option Tmp} {ty : TypeId} {pos : String} {af : Array Edge} {r : List Oper} {i : Nat} {ks : List Kn}
    {x y : Operand} {t e : TypeId} {β off m cap sz : Nat} {b : Bool} {kd : IntKind} (hx : (frDet (depsOf af) ks (fr0 i)).ev x = some (.slice (some ⟨β, off, none⟩) m cap)) (hy : (frDet (depsOf af) ks (fr0 i)).ev y = some (.int kd 1)) (hu : P.underlying t = some (.slice e)) (hs : tySh P e = some (b, sz)) (hm : 1 ≤ m) (hd : Fr.fits N d = true)
    (k : JD P N ops Q n es Ls w0 fr0 Z r (i + 1) (.det i d (.slice (some (if cap = 1 then ⟨β, off, none⟩ else ⟨β, off + 1 * sz, none⟩)) (m - 1) (cap - 1)) :: ks))
    (he : neB es i = true := by rfl) (hs0 : noS ks i = true := by rfl) : JD P N ops Q n es Ls w0 fr0 Z (⟨d, .slice t x (some y) none none, ty, pos, af, none⟩ :: r) i ks :=
  JD.det _ he hs0 (fun _ _ _ _ _ => JL.slice1 hx hy hu hs hm hd (JL.one (o := ⟨d, .slice t x (some y) none none, ty, pos, af, none⟩) (Below.refl _ _))) k
/-- a call that hands back memory of its own, in a drawn region -/
theorem JD.callN {P : Program} {N : Sz} {ops : Array Oper} {Q : Exit → Act → World → Prop} {n : Nat} {es : List Nat} {Ls : Nat → List HP} {w0 : World} {fr0 : Nat → Fr} {Z : Fr → World → Prop} {d : Tmp} {ty : TypeId} {pos : String} {af : Array Edge} {r : List Oper} {i : Nat} {ks : List Kn}
    {f : FuncId} {xs : Array Operand} {tys : Array TypeId} {vs : List Value} (A : Value → HP) (hb : hasBody P f = true) (hx : (frDet (depsOf af) ks (fr0 i)).evs xs.toList = some vs) (hd : Fr.fits N (some d) = true)
    (hc : ∀ w, Own w0 w (Ls 0) → Calls P f vs.toArray w (fun e w' => ∃ v, e = .returned v ∧ Own w w' [A v])) (k : JD P N ops Q n es Ls w0 fr0 Z r (i + 1) (.nd i d none A A :: ks))
    (he : neB es i = true := by rfl) (hs0 : noS ks i = true := by rfl) (hW : WB ops es i = true := by rfl) : JD P N ops Q n es Ls w0 fr0 Z (⟨some d, .call ⟨.value (.func f), xs, tys⟩, ty, pos, af, none⟩ :: r) i ks :=
  JD.nd none A A rfl he hs0 rfl (fun p w X h1 h2 hO => JL.call hb hx hd (hc w (by have := WB_spec hW h1 h2; subst this; exact hO.right)) fun _ w' h => by
    obtain ⟨v, rfl, K⟩ := h
    exact ⟨v, rfl, JL.oneN (o := ⟨some d, .call ⟨.value (.func f), xs, tys⟩, ty, pos, af, none⟩) rfl (hO.join K)⟩) k
theorem Own.rowCap {w0 w : World} {L : List HP} (H : Own w0 w L) {j : Nat} {e : TypeId} {sz : Nat} {v : Value} {n : Nat} {xs : List Value} (hj : L[j]? = some (row e sz v n xs)) : capOK v := by
  obtain ⟨_, h⟩ := H.row_shape hj
  rcases h with ⟨rfl, rfl⟩ | ⟨g, cap, cur, rfl, h, _⟩
  · exact Nat.le_refl _
  · exact h
section
variable {P : Program} {N : Sz} {Q : Exit → Act → World → Prop} {fr : Fr} {w : World}
/-- a region whose ways meet again -/
theorem JC.regionTo {id : Nat} {ops : Array Oper} (F : Fr) (I : World → Prop) (h1 : JL P N ops (Exit.then (fun a w' => Has N F a ∧ I w') Q) ops.toList fr w) (h2 : ∀ w', I w' → Ex N Q .normal F w') : JC P N (.region id ops false) Q fr w := by
  intro a H
  refine Code.wpIn_mono (fun e a' w' h => ?_) (wpIn_region_list (h1 a H))
  cases e with
  | normal => exact h2 w' h.2 a' h.1
  | _ => exact h
theorem Ex.to {F : Fr} {I : World → Prop} (hs : fr.sub F) (hI : I w) : Ex N (Exit.then (fun a w' => Has N F a ∧ I w') Q) .normal fr w := fun a H => ⟨H.sub hs, hI⟩
end
section
variable {P : Program} {N : Sz} {ops : Array Oper} {Q : Exit → Act → World → Prop} {rest : List Oper} {fr : Fr} {w w0 : World} {L : List HP}
  {d : Option Tmp} {ty : TypeId} {pos : String} {af : Array Edge}
/-- == or != at what is no number -/
structure EqAt2 (P : Program) (op : BinOp) (t : TypeId) (a b v : Value) : Prop where
  guard : ∀ x y w, (eqGuard op t x y a b).run P w = .ok () w
  run : ∀ w, (binOp op t a b).run P w = .ok v w
theorem JL.eqs {op : BinOp} {t yt : TypeId} {x y : Operand} {a b v : Value} (hx : fr.ev x = some a) (hy : fr.ev y = some b) (he : EqAt2 P op t a b v) (hd : Fr.fits N d = true) (k : JL P N ops Q rest (fr.put d v) w) :
    JL P N ops Q (⟨d, .binOp op t x y yt, ty, pos, af, none⟩ :: rest) fr w :=
  JL.val rfl hd (fun a' H => by
    simp only [execOp, H.eval hx, H.eval hy]
    simp [he.guard, he.run]) k
end
theorem JD.eqs {P : Program} {N : Sz} {ops : Array Oper} {Q : Exit → Act → World → Prop} {n : Nat} {es : List Nat} {Ls : Nat → List HP} {w0 : World} {fr0 : Nat → Fr} {Z : Fr → World → Prop} {d : Option Tmp} {ty : TypeId} {pos : String} {af : Array Edge} {r : List Oper} {i : Nat} {ks : List Kn}
    {op : BinOp} {t yt : TypeId} {x y : Operand} {a b v : Value} (hx : (frDet (depsOf af) ks (fr0 i)).ev x = some a) (hy : (frDet (depsOf af) ks (fr0 i)).ev y = some b) (he2 : EqAt2 P op t a b v) (hd : Fr.fits N d = true)
    (k : JD P N ops Q n es Ls w0 fr0 Z r (i + 1) (.det i d v :: ks)) (he : neB es i = true := by rfl) (hs0 : noS ks i = true := by rfl) : JD P N ops Q n es Ls w0 fr0 Z (⟨d, .binOp op t x y yt, ty, pos, af, none⟩ :: r) i ks :=
  JD.det _ he hs0 (fun _ _ _ _ _ => JL.eqs hx hy he2 hd (JL.one (o := ⟨d, .binOp op t x y yt, ty, pos, af, none⟩) (Below.refl _ _))) k
theorem eqBool (t : TypeId) (ht : Try.prog.underlying t = some .bool) (a b : Bool) : EqAt2 Try.prog .eql t (.bool a) (.bool b) (.bool (a == b)) :=
  ⟨fun x y w => by simp [eqGuard], fun w => by simp [binOp, Op.equal, Op.maxDepth, show (10000 : Nat) = 9999 + 1 from rfl, run_equalIn_bool w 9999 t a b ht]⟩
theorem eqFields2 (t : TypeId) (hS : Try.prog.underlying t = some (.struct (Try.prog.fieldsOf t))) (hp : Try.prog.stoodInHeld t = false) (hg : Try.prog.eqGuardType Try.prog.depth t = false) (xs ys : Array Value) (b : Bool)
    (h : ∀ w, (Op.eqFields 9999 xs ys (Try.prog.fieldsOf t).toList).run Try.prog w = .ok b w) : EqAt2 Try.prog .eql t (.agg xs) (.agg ys) (.bool b) ∧ EqAt2 Try.prog .neq t (.agg xs) (.agg ys) (.bool (!b)) := by
  refine ⟨⟨fun x y w => run_eqGuard_agg w .eql t x y xs ys hg, fun w => ?_⟩, ⟨fun x y w => run_eqGuard_agg w .neq t x y xs ys hg, fun w => ?_⟩⟩
  · rw [run_eql_struct, show (10000 : Nat) = 9999 + 1 from rfl, run_equalIn_agg w 9999 t _ _ hS hp, h w]; rfl
  · rw [run_neq_struct, show (10000 : Nat) = 9999 + 1 from rfl, run_equalIn_agg w 9999 t _ _ hS hp, h w]; rfl
theorem eq140 (a b c x y z : Int) : EqAt2 Try.prog .eql 140 (.agg ⟨[.int .i64 a, .int .i64 b, .int .i64 c]⟩) (.agg ⟨[.int .i64 x, .int .i64 y, .int .i64 z]⟩) (.bool (decide (a = x ∧ b = y ∧ c = z))) ∧
    EqAt2 Try.prog .neq 140 (.agg ⟨[.int .i64 a, .int .i64 b, .int .i64 c]⟩) (.agg ⟨[.int .i64 x, .int .i64 y, .int .i64 z]⟩) (.bool (!decide (a = x ∧ b = y ∧ c = z))) := by
  refine eqFields2 140 (by kernel_rfl) (by kernel_rfl) (by kernel_rfl) _ _ _ fun w => ?_
  have u3 := Try.underlying3
  have a3 := Try.isAgg3
  have z3 := Try.sizeOf3
  simp only [Program.fieldsOf, Try.underlying140]
  go_simp
  by_cases h1 : a = x <;> by_cases h2 : b = y <;> by_cases h3 : c = z <;> simp [h1, h2, h3]
theorem eqTwo {t : TypeId} (ht : t = 62 ∨ t = 23) (a b x y : Int) : EqAt2 Try.prog .eql t (.agg ⟨[.int .i64 a, .int .i64 b]⟩) (.agg ⟨[.int .i64 x, .int .i64 y]⟩) (.bool (decide (a = x ∧ b = y))) ∧
    EqAt2 Try.prog .neq t (.agg ⟨[.int .i64 a, .int .i64 b]⟩) (.agg ⟨[.int .i64 x, .int .i64 y]⟩) (.bool (!decide (a = x ∧ b = y))) := by
  have u3 := Try.underlying3
  have a3 := Try.isAgg3
  have z3 := Try.sizeOf3
  rcases ht with rfl | rfl
  · refine eqFields2 62 (by kernel_rfl) (by kernel_rfl) (by kernel_rfl) _ _ _ fun w => ?_
    simp only [Program.fieldsOf, Try.underlying62]
    go_simp
    by_cases h1 : a = x <;> by_cases h2 : b = y <;> simp [h1, h2]
  · refine eqFields2 23 (by kernel_rfl) (by kernel_rfl) (by kernel_rfl) _ _ _ fun w => ?_
    simp only [Program.fieldsOf, Try.underlying23]
    go_simp
    by_cases h1 : a = x <;> by_cases h2 : b = y <;> simp [h1, h2]
end Go.J
