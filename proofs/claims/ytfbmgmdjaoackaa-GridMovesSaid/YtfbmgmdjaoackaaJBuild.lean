/-
  Lemmas for the statements of this seat; no statement is proved here. No condition.
-/
import Derived.Test.YtfbmgmdjaoackaaJEnd
namespace Go.J
set_option linter.unusedSimpArgs false
set_option linter.unusedVariables false
open Go.RowKit

theorem foldl_set (vs : List Value) : ∀ (off i : Nat) (cs : Array Value), off + i + vs.length ≤ cs.size →
    ((vs.zipIdx i).foldl (fun (cs : Array Value) (p : Value × Nat) => cs.setIfInBounds (off + p.2) p.1) cs).size = cs.size ∧
    ∀ j : Nat, ((vs.zipIdx i).foldl (fun (cs : Array Value) (p : Value × Nat) => cs.setIfInBounds (off + p.2) p.1) cs)[j]? = if off + i ≤ j ∧ j < off + i + vs.length then vs[j - (off + i)]? else cs[j]? := by
  induction vs with
  | nil => intro off i cs h; exact ⟨rfl, fun j => by rw [if_neg (by simp)]; rfl⟩
  | cons v vs ih =>
    intro off i cs h
    simp only [List.length_cons] at h
    obtain ⟨h1, h2⟩ := ih off (i + 1) (cs.setIfInBounds (off + i) v) (by simp; omega)
    refine ⟨by simpa using h1, fun j => ?_⟩
    simp only [List.zipIdx_cons, List.foldl_cons]
    rw [h2 j]
    by_cases hc : off + (i + 1) ≤ j ∧ j < off + (i + 1) + vs.length
    · rw [if_pos hc, if_pos (by simp; omega)]
      rw [show j - (off + i) = (j - (off + (i + 1))) + 1 by omega]
      simp
    · rw [if_neg hc]
      by_cases hj : j = off + i
      · subst hj; rw [if_pos (by simp)]; simp [show off + i < cs.size by omega]
      · rw [if_neg (by simp; omega)]; simp [show ¬ off + i = j by omega]

/-- parts laid into the cells of a struct or an array -/
def fillK (fr : Fr) (place : Nat → Option (Nat × Nat)) : List (Nat × Operand) → List Value → Option (List Value)
  | [], cs => some cs
  | (i, x) :: r, cs => match place i with
    | some (off, sz) => match fr.ev x with
      | some v => match cellsO v with
        | some l => bif Nat.beq l.length sz then setK off l cs fun cs' => fillK fr place r cs' else none
        | none => none
      | none => none
    | none => none

theorem fillK_eq {N : Sz} {fr : Fr} {a : Act} (H : Has N fr a) {place : Nat → Option (Nat × Nat)} : ∀ {ps : List (Nat × Operand)} {cs cs' : List Value}, fillK fr place ps cs = some cs' →
    Instr.fill place ⟨cs⟩ (ps.map fun p => (p.1, a.eval p.2)) = some ⟨cs'⟩ := by
  intro ps
  induction ps with
  | nil => intro cs cs' h; simp [fillK] at h; subst h; rfl
  | cons p ps ih =>
    obtain ⟨i, x⟩ := p
    intro cs cs' h
    simp only [fillK] at h
    cases hp : place i with
    | none => rw [hp] at h; cases h
    | some q =>
      obtain ⟨off, sz⟩ := q
      rw [hp] at h
      simp only at h
      cases hv : fr.ev x with
      | none => rw [hv] at h; cases h
      | some v =>
        rw [hv] at h
        simp only at h
        cases hc : cellsO v with
        | none => rw [hc] at h; cases h
        | some l =>
          rw [hc] at h
          simp only at h
          cases hb : Nat.beq l.length sz with
          | false => rw [hb] at h; cases h
          | true =>
            rw [hb] at h
            simp only [cond_true] at h
            obtain ⟨m, h1, h2, h3, h4⟩ := setK_eq h
            have hl := Nat.eq_of_beq_eq_true hb
            have := ih h1
            simp only [List.map_cons, Instr.fill, hp, H.eval hv, cellsO_eq hc]
            rw [if_neg (by simp; omega)]
            have hf := foldl_set l off 0 ⟨cs⟩ (by simpa using h3)
            have e : (Array.foldl (fun (cs : Array Value) (p : Value × Nat) => cs.setIfInBounds (off + p.2) p.1) ⟨cs⟩ (Array.zipIdx ⟨l⟩)) = ⟨m⟩ := by
              rw [← Array.foldl_toList]
              apply Array.ext'
              apply List.ext_getElem?
              intro j
              have := hf.2 j
              simp at this
              simp [h4 j]
              exact this
            have e' : (fun (cs : Array Value) (x : Value × Nat) => match x with | (c, j) => cs.setIfInBounds (off + j) c) = fun (cs : Array Value) (p : Value × Nat) => cs.setIfInBounds (off + p.2) p.1 := by
              funext cs x; rfl
            rw [e', e]
            exact this

def plcs (P : Program) : List Field → Option (List (Nat × Nat))
  | [] => some []
  | f :: r => match P.info? f.type, plcs P r with
    | some i, some l => some ((f.offset, i.size) :: l)
    | _, _ => none

theorem plcs_run {P : Program} : ∀ {fs : List Field} {l : List (Nat × Nat)}, plcs P fs = some l → ∀ w : World,
    (fs.mapM (fun f => do pure (f.offset, ← sizeOf f.type)) : Sem (List (Nat × Nat))).run P w = .ok l w := by
  intro fs
  induction fs with
  | nil => intro l h w; simp [plcs] at h; subst h; simp
  | cons f fs ih =>
    intro l h w
    simp only [plcs] at h
    split at h
    · rename_i i m hi hm
      cases h
      have hs : (sizeOf f.type).run P w = .ok i.size w := by simp [sizeOf, typeInfo, hi]
      rw [List.mapM_cons, Sem.run_bind, Sem.run_bind, hs]
      simp only [Result.andThen]
      show Sem.run P (List.mapM (fun f => do Pure.pure (f.offset, ← sizeOf f.type)) fs >>= fun l => Pure.pure ((f.offset, i.size) :: l)) w = _
      rw [Sem.run_bind, ih hm w]
      rfl
    · cases h

/-- the places of a struct's fields, and its cells at first -/
def tyStruct (P : Program) (t : TypeId) : Option (List (Nat × Nat) × List Value) :=
  match P.underlying t with
  | some (.struct fs) => match plcs P fs.toList, tyZero P t with
    | some l, some z => some (l, z)
    | _, _ => none
  | _ => none

/-- an array's length, the cells of an element, its cells at first -/
def tyArray (P : Program) (t : TypeId) : Option (Nat × List Value) :=
  match P.underlying t with
  | some (.array _ e) => match P.info? e, tyZero P t with
    | some i, some z => some (i.size, z)
    | _, _ => none
  | _ => none

section
variable {P : Program} {N : Sz} {ops : Array Oper} {Q : Exit → Act → World → Prop} {rest : List Oper} {fr : Fr} {w w0 : World} {L : List HP}
  {d : Option Tmp} {ty : TypeId} {pos : String} {af : Array Edge}

theorem JL.build {t : TypeId} {ps : Array (Nat × Operand)} {pl : List (Nat × Nat)} {z cs : List Value} (ht : tyStruct P t = some (pl, z)) (hc : fillK fr (fun i => pl[i]?) ps.toList z = some cs)
    (hd : Fr.fits N d = true) (k : JL P N ops Q rest (fr.put d (.agg ⟨cs⟩)) w) : JL P N ops Q (⟨d, .build t ps, ty, pos, af, none⟩ :: rest) fr w := by
  refine JL.val rfl hd (fun a H => ?_) k
  unfold tyStruct at ht
  split at ht
  · rename_i fs hu
    split at ht
    · rename_i l z' hp hz
      cases ht
      obtain ⟨zv, h1, h2⟩ := tyZero_run hz w
      have hpl : (Array.mapM (fun f => do Pure.pure (f.offset, ← sizeOf f.type)) fs : Sem (Array (Nat × Nat))).run P w = .ok ⟨pl⟩ w := by
        rw [← Array.toArray_toList (xs := fs), List.mapM_toArray, Sem.run_map, plcs_run hp w]
        rfl
      have hf := fillK_eq H hc
      have e1 : (Array.map (fun (p : Nat × Operand) => (p.1, a.eval p.2)) ps).toList = ps.toList.map fun p => (p.1, a.eval p.2) := by simp
      simp only [execOp, Instr.build]
      rw [Sem.run_bind, Sem.run_bind, h1]
      simp only [Result.andThen]
      rw [Sem.run_bind, run_underlying hu]
      simp only [Result.andThen]
      rw [Sem.run_bind, hpl]
      simp only [Result.andThen, h2, e1]
      have hf' : Instr.fill (fun x => (⟨pl⟩ : Array (Nat × Nat))[x]?) ⟨z⟩ (ps.toList.map fun p => (p.1, a.eval p.2)) = some ⟨cs⟩ := by simpa using hf
      rw [hf']
      rfl
    · cases ht
  · cases ht

theorem range_rep (zs : List Value) (_ : 0 < zs.length) : ∀ n : Nat, (List.range (n * zs.length)).map (fun i => (zs[i % zs.length]?).getD default) = (List.replicate n zs).flatten := by
  intro n
  induction n with
  | zero => simp
  | succ n ih =>
    rw [Nat.succ_mul, List.range_add, List.map_append, ih, List.replicate_succ', List.flatten_append]
    congr 1
    simp only [List.map_map, List.flatten_cons, List.flatten_nil, List.append_nil]
    apply List.ext_getElem?
    intro i
    rw [List.getElem?_map]
    by_cases hi : i < zs.length
    · rw [List.getElem?_range hi]
      simp only [Option.map_some, Function.comp_apply]
      rw [Nat.mul_add_mod_self_right, Nat.mod_eq_of_lt hi, List.getElem?_eq_getElem hi]
      rfl
    · rw [List.getElem?_eq_none (by simpa using hi), List.getElem?_eq_none (by omega)]; rfl

/-- the cells of an element at first -/
theorem JL.buildSlice {t e : TypeId} {n sz : Nat} {b : Bool} {ps : Array (Nat × Operand)} {z cs : List Value} (H : Own w0 w L) (hu : P.underlying t = some (.slice e)) (hs : tySh P e = some (b, sz)) (hz : tyZero P e = some z)
    (hn : Nat.ble (n * sz) 16777216 = true) (hzl : z.length = sz) (hpos : Nat.ble 1 sz = true) (hc : fillK fr (fun i => some (i * sz, sz)) ps.toList (List.replicate n z).flatten = some cs) (hd : Fr.fits N d = true)
    (k : ∀ β w', Own w0 w' (blk β (.cells ⟨cs⟩ e (0, 0)) :: L) → JL P N ops Q rest (fr.put d (.slice (some ⟨β, 0, none⟩) n n)) w') :
    JL P N ops Q (⟨d, .buildSlice t n ps, ty, pos, af, none⟩ :: rest) fr w := by
  refine JL.val rfl hd (fun a Ha => ?_) (k w.heap.size (w.alloc (.cells ⟨cs⟩ e (0, 0))) (H.new _))
  obtain ⟨zv, h1, h2⟩ := tyZero_run hz w
  have hn' := Nat.le_of_ble_eq_true hn
  have hp' := Nat.le_of_ble_eq_true hpos
  have hf := fillK_eq Ha hc
  have e1 : (Array.map (fun (p : Nat × Operand) => (p.1, a.eval p.2)) ps).toList = ps.toList.map fun p => (p.1, a.eval p.2) := by simp
  simp only [execOp, Instr.buildSlice]
  rw [Sem.run_bind, Sem.run_bind, run_underlying hu]
  simp only [Result.andThen]
  rw [Sem.run_bind, (tySh_agg hs w).2]
  simp only [Result.andThen]
  rw [if_neg (by simp; omega)]
  by_cases h0 : n * sz = 0
  · have hn0 : n = 0 := by
      rcases Nat.eq_zero_or_pos n with h | h
      · exact h
      · have := Nat.mul_pos h hp'; omega
    subst hn0
    simp at hf
    have hr0 : Array.range 0 = #[] := rfl
    have hf' : Instr.fill (fun i => some (i * sz, sz)) #[] (List.map (fun p => (p.1, a.eval p.2)) ps.toList) = some ⟨cs⟩ := hf
    simp [hr0, hf', newRow, newObj, Sem.run]
  · rw [if_neg h0]
    have hz1 : ((Array.range (n * sz)).map fun i => zv.cells[i % zv.cells.size]!) = ⟨(List.replicate n z).flatten⟩ := by
      rw [h2, ← hzl]
      apply Array.ext'
      have := range_rep z (by omega) n
      simp only [Array.toList_map, Array.toList_range]
      rw [← this]
      apply List.map_congr_left
      intro i _
      simp [Array.getElem!_eq_getD, Array.getD_eq_getD_getElem?]
    rw [Sem.run_bind, h1]
    simp only [Result.andThen]
    rw [Sem.run_bind, Sem.run_pure]
    simp only [Result.andThen]
    rw [hz1, e1, hf]
    simp [newRow, newObj, Sem.run]
end
end Go.J
