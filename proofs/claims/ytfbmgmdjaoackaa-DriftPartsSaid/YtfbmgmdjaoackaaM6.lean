/-
  Lemmas for the statements of this seat; no statement is proved here. No condition.
-/
import Derived.Test.YtfbmgmdjaoackaaM5
import Derived.Test.YtfbmgmdjaoackaaM3
namespace Go.J
set_option linter.unusedSimpArgs false
set_option linter.unusedVariables false
open Go.RowKit
/-! ## a region that draws its order, told by an invariant of what has come -/
section
variable {P : Program} {N : Sz} {ops : Array Oper} {Q : Exit → Act → World → Prop}
theorem drawX_any (Inv : (Nat → Bool) → Act → World → Prop) (hback : backB ops = true)
    (hstep : ∀ (i : Nat) (o : Oper) (l : Nat → Bool) a w, ops[i]? = some o → l i = false → (∀ j, depsOf o.after j = true → l j = true) → Inv l a w → wpListIn (wideR N.ro) 0 P ops (Exit.then (fun a' w' => Inv (fun j => decide (j = i) || l j) a' w') Q) [o] a w)
    (hfin : ∀ (l : Nat → Bool) a w, (∀ j, j < ops.size → l j = true) → Inv l a w → Q .normal a w) :
    ∀ (fuel : Nat) (listed : Array Bool) (a : Act) (w : World), listed.toList.count false = fuel → listed.size = ops.size → Inv (fun j => listed.getD j false) a w → wpAnyIn (wideR N.ro) 0 P .any ops Q fuel listed a w := by
  intro fuel
  induction fuel with
  | zero =>
    intro listed a w hcount hsz hI
    have h0 := List.count_eq_zero.1 hcount
    have hall : ∀ i, i < ops.size → listed.getD i false = true := by
      intro i hi
      have hlt : i < listed.size := by omega
      cases hc : listed.getD i false with
      | true => rfl
      | false =>
        exfalso
        apply h0
        simp [hlt] at hc
        rw [← hc]
        exact Array.mem_toList_iff.2 (Array.getElem_mem hlt)
    refine ⟨?_, hfin _ a w hall hI⟩
    cases hr : Region.ready .any ops listed with
    | nil => rfl
    | cons i r =>
      exfalso
      have hi : i ∈ Region.ready .any ops listed := by rw [hr]; exact List.mem_cons_self
      obtain ⟨hun, o, ho, _⟩ := mem_ready.1 hi
      have hlt := (Array.getElem?_eq_some_iff.1 ho).1
      have := hall i hlt
      rw [getD_both hun] at this
      cases this
  | succ fuel ih =>
    intro listed a w hcount hsz hI
    have hex : ∃ i, i < ops.size ∧ listed.getD i false = false := by
      refine Classical.byContradiction fun hno => ?_
      have : listed.toList.count false = 0 := by
        rw [List.count_eq_zero]
        intro hm
        obtain ⟨i, hi, he⟩ := List.getElem_of_mem hm
        simp at hi
        exact hno ⟨i, by omega, by simpa [hi] using he⟩
      omega
    obtain ⟨mm, hm, hml⟩ := hex
    obtain ⟨i0, hi0, hl0, hmin⟩ := least_unlisted mm hm hml
    have hlsz : i0 < listed.size := by omega
    refine ⟨fun hr => ?_, fun i hi => ?_⟩
    · exfalso
      have : i0 ∈ Region.ready .any ops listed := by
        have ho : ops[i0]? = some (ops[i0]'(by omega)) := Array.getElem?_eq_getElem _
        exact mem_ready.2 ⟨getD_in hlsz hl0, _, ho, fun e he hb => hmin _ (backB_spec hback ho he hb)⟩
      rw [hr] at this
      cases this
    · obtain ⟨hun, o, ho, hdeps⟩ := mem_ready.1 hi
      have hlisted : listed.getD i false = false := getD_both hun
      have hio := (Array.getElem?_eq_some_iff.1 ho).1
      have hisz : i < listed.size := by omega
      have hw := hstep i o (fun j => listed.getD j false) a w ho hlisted (fun j hj => by
        obtain ⟨e, he, h1, h2⟩ := depsOf_spec hj
        rw [← h1]; exact hdeps e he h2) hI
      have hnext : ∀ a' w', Inv (fun j => decide (j = i) || listed.getD j false) a' w' → wpAnyIn (wideR N.ro) 0 P .any ops Q fuel (listed.setIfInBounds i true) a' w' := by
        intro a' w' hI'
        refine ih _ a' w' ?_ (by simpa using hsz) ?_
        · have : (listed.setIfInBounds i true).toList = listed.toList.set i true := by simp
          rw [this, List.count_set (by simpa using hisz)]
          simp [hisz] at hlisted
          simp [hlisted]
          simp at hcount
          omega
        · have he : (fun j => (listed.setIfInBounds i true).getD j false) = fun j => decide (j = i) || listed.getD j false := by
            funext j
            by_cases hj : j = i
            · subst hj; simp [hisz]
            · rw [getD_set_ne false (fun h => hj h.symm), decide_eq_false hj, Bool.false_or]
          rw [he]; exact hI'
      unfold wpOpIn
      rw [ho]
      simp only
      unfold wpListIn at hw
      split at hw
      · rename_i hwant
        rw [if_pos hwant]
        refine Oper.wpIn_exits (fun e a w hne q => ?_) (Oper.wpIn_mono (fun a' w' hh => hnext a' w' hh) hw)
        cases e <;> first | exact absurd rfl hne | exact q
      · rename_i hwant
        rw [if_neg hwant]
        exact ⟨fun _ _ => trivial, hnext _ _ hw.2⟩
theorem JC.drawX {id : Nat} {fr : Fr} {w : World} (Inv : (Nat → Bool) → Act → World → Prop) (hm : P.follows .mixedOrders = true) (hback : backB ops = true)
    (h0 : ∀ a, Has N fr a → Inv (fun _ => false) a w.drew)
    (hstep : ∀ (i : Nat) (o : Oper) (l : Nat → Bool) a w, ops[i]? = some o → l i = false → (∀ j, depsOf o.after j = true → l j = true) → Inv l a w → wpListIn (wideR N.ro) 0 P ops (Exit.then (fun a' w' => Inv (fun j => decide (j = i) || l j) a' w') Q) [o] a w)
    (hfin : ∀ (l : Nat → Bool) a w, (∀ j, j < ops.size → l j = true) → Inv l a w → Q .normal a w) : JC P N (.region id ops true) Q fr w := by
  intro a Ha
  refine wpIn_region_any hm ?_
  refine drawX_any Inv hback hstep hfin ops.size _ a w.drew (by simp [List.count_replicate]) (by simp) ?_
  have he : (fun j => (Array.replicate ops.size false).getD j false) = fun _ => false := by
    funext j
    rw [Array.getD_eq_getD_getElem?, Array.getElem?_replicate]
    split <;> rfl
  rw [he]
  exact h0 a Ha
end
/-- a slot that may be written -/
def fit (b : Bool) (u : Tmp) (v : Value) (r : Fr) : Fr := bif b then (u, v) :: r else r
theorem fit_get {b : Bool} {u t : Tmp} {v : Value} {r : Fr} : (fit b u v r).get t = if u = t ∧ b = true then some v else r.get t := by
  cases b with
  | false => simp [fit]
  | true =>
    simp only [fit, cond_true, Fr.get, and_true]
    by_cases h : u = t
    · subst h; simp
    · have : Nat.beq u t = false := by
        cases hb : Nat.beq u t with
        | false => rfl
        | true => exact absurd (Nat.eq_of_beq_eq_true hb) h
      rw [this, if_neg h]; rfl
theorem Has.fit {N : Sz} {b : Bool} {u : Tmp} {v : Value} {r : Fr} {a : Act} (H : Has N r a) (h : b = true → a.tmps[u]? = some v) : Has N (fit b u v r) a := by
  cases b with
  | false => exact H
  | true => exact H.more (h rfl)
theorem Fr.get_cons {u t : Tmp} {v : Value} {r : Fr} : Fr.get ((u, v) :: r) t = if u = t then some v else r.get t := by
  have := @fit_get true u t v r
  simpa [Go.J.fit] using this
/-- memory that may be there -/
def mit (b : Bool) (A : HP) (L : List HP) : List HP := bif b then A :: L else L
theorem mit_perm {b : Bool} {A B : HP} {L : List HP} : (mit b A (B :: L)).Perm (B :: mit b A L) := by
  cases b with
  | false => exact List.Perm.refl _
  | true => exact List.Perm.swap _ _ _
theorem mit_mono {b : Bool} {A : HP} {L M : List HP} (h : L.Perm M) : (mit b A L).Perm (mit b A M) := by
  cases b with
  | false => exact h
  | true => exact h.cons _
theorem mit_true {A : HP} {L : List HP} : mit true A L = A :: L := rfl
theorem mit_false {A : HP} {L : List HP} : mit false A L = L := rfl
theorem Own.unmit {w0 w : World} {b : Bool} {A : HP} {L : List HP} (H : Own w0 w (mit b A L)) : Own w0 w L := by
  cases b with
  | false => exact H
  | true => exact H.drop 0
end Go.J

namespace Go.J
open Go.RowKit Go.Proofs
set_option maxRecDepth 8000
set_option linter.unusedSimpArgs false
set_option linter.unusedVariables false
/-! drift: a step -/
/-- the frame, the memory in the region that makes two sets -/
def frX (b3 b4 b6 : Nat) (sec : Int) (off : Bool) (l : Nat → Bool) (β0 β1 b8 b9 : Nat) : Fr :=
  fit (l 0) 29 (.map (some β0)) (fit (l 1) 30 (.map (some β1)) (fit (l 2) 31 (.pointer (some ⟨b4, 4, none⟩)) (fit (l 3) 32 (.bool off) (fit (l 4) 8 (.pointer (some ⟨b8, 0, none⟩)) (fit (l 5) 9 (.pointer (some ⟨b9, 0, none⟩)) (fit (l 8) 10 (.bool off)
    [(2, .int .i64 sec), (3, .pointer (some ⟨b3, 0, none⟩)), (4, .pointer (some ⟨b4, 0, none⟩)), (6, .pointer (some ⟨b6, 0, none⟩))]))))))
def mmX (l : Nat → Bool) (β0 β1 b8 b9 : Nat) (L : List HP) : List HP :=
  mit (l 0) (setM β0 []) (mit (l 1) (setM β1 []) (mit (l 4) (blk b8 (.cells ⟨[if l 6 = true then .map (some β0) else .map none]⟩ 290 (0, 0))) (mit (l 5) (blk b9 (.cells ⟨[if l 7 = true then .map (some β1) else .map none]⟩ 290 (0, 0))) L)))
def invX (w0 : World) (b3 b4 b6 : Nat) (sec : Int) (off : Bool) (L : List HP) (l : Nat → Bool) (a : Act) (w : World) : Prop :=
  (l 6 = true → l 0 = true ∧ l 4 = true) ∧ (l 7 = true → l 1 = true ∧ l 5 = true) ∧ ∃ β0 β1 b8 b9 : Nat, Has ⟨134, [], none⟩ (frX b3 b4 b6 sec off l β0 β1 b8 b9) a ∧ Own w0 w (mmX l β0 β1 b8 b9 L)
theorem frX_next {b3 b4 b6 : Nat} {sec : Int} {off : Bool} {l l' : Nat → Bool} {β0 β1 b8 b9 γ0 γ1 c8 c9 : Nat} {fr : Fr} {a : Act} (H : Has ⟨134, [], none⟩ fr a)
    (hb : ∀ t, t = 2 ∨ t = 3 ∨ t = 4 ∨ t = 6 → fr.get t = Fr.get (frX b3 b4 b6 sec off l β0 β1 b8 b9) t)
    (h0 : l' 0 = true → fr.get 29 = some (.map (some γ0))) (h1 : l' 1 = true → fr.get 30 = some (.map (some γ1))) (h2 : l' 2 = true → fr.get 31 = some (.pointer (some ⟨b4, 4, none⟩))) (h3 : l' 3 = true → fr.get 32 = some (.bool off))
    (h4 : l' 4 = true → fr.get 8 = some (.pointer (some ⟨c8, 0, none⟩))) (h5 : l' 5 = true → fr.get 9 = some (.pointer (some ⟨c9, 0, none⟩))) (h8 : l' 8 = true → fr.get 10 = some (.bool off)) : Has ⟨134, [], none⟩ (frX b3 b4 b6 sec off l' γ0 γ1 c8 c9) a := by
  unfold frX
  refine Has.fit (Has.fit (Has.fit (Has.fit (Has.fit (Has.fit (Has.fit (H.sub ⟨?_, ?_, ?_, ?_, trivial⟩) (fun h => H.get _ _ (h8 h))) (fun h => H.get _ _ (h5 h))) (fun h => H.get _ _ (h4 h))) (fun h => H.get _ _ (h3 h))) (fun h => H.get _ _ (h2 h))) (fun h => H.get _ _ (h1 h))) (fun h => H.get _ _ (h0 h))
  all_goals (rw [hb _ (by simp)]; simp [frX, Fr.get_cons, fit_get])
theorem aflB_or {g : Grid} {F : Cell → Push} {r : List Run} {gl : List (Push × List Run)} (h : GroupsOk g F r gl) (hg : g.ok = true) (hs : g.W * g.H ≤ 4096) (T : Push → Push) (hT : ∀ c, hasB r c = true → (T (F c)).ok = true) {x : Push × List Run} (hx : x ∈ gl) : (growR g x.2 (T x.1)).2.2 = 0 := by
  obtain ⟨_, e, _⟩ := h.grow hg hs T hT hx
  rw [e]
end Go.J

namespace Go.J
open Go.RowKit Go.Proofs
set_option maxRecDepth 8000
set_option linter.unusedSimpArgs false
set_option linter.unusedVariables false
/-! drift: a step, told by its sets -/
section
variable (g : Grid) (F : Nat → Cell → Push) (reg : Nat → List Run) (pb : List Run) (off0 : Bool)
/-- what stands when the first i sides are done -/
structure StepSt (i : Nat) (off : Bool) (m0 m1 mB : List (Cell × Bool)) : Prop where
  t0 : AllT m0
  t1 : AllT m1
  tB : AllT mB
  e0 : i = 0 → m0 = []
  e1 : i ≤ 1 → m1 = []
  h0 : ∀ c, setR m0 c = true ↔ 0 < i ∧ inG g c ∧ sweepS g (F 0) (reg 0) c = true
  h1 : ∀ c, setR m1 c = true ↔ 1 < i ∧ inG g c ∧ sweepS g (F 1) (reg 1) c = true
  hB : ∀ c, setR mB c = true ↔ hasB pb c = true ∨ (0 < i ∧ inG g c ∧ sweepS g (fun b => stillP (F 0 b)) (reg 0) c = true) ∨ (1 < i ∧ inG g c ∧ sweepS g (fun b => stillP (F 1 b)) (reg 1) c = true)
  hO : off = true ↔ off0 = true ∨ (0 < i ∧ (sweepO g (F 0) (reg 0) = true ∨ sweepO g (fun b => stillP (F 0 b)) (reg 0) = true)) ∨ (1 < i ∧ (sweepO g (F 1) (reg 1) = true ∨ sweepO g (fun b => stillP (F 1 b)) (reg 1) = true))
variable {g F reg pb off0}
theorem setR_nil (c : Cell) : setR [] c = false := rfl
theorem AllT.nil : AllT [] := fun p hp => by cases hp
theorem StepSt.start {mB : List (Cell × Bool)} (tB : AllT mB) (hB : ∀ c, setR mB c = true ↔ hasB pb c = true) : StepSt g F reg pb off0 0 off0 [] [] mB :=
  ⟨AllT.nil, AllT.nil, tB, fun _ => rfl, fun _ => rfl, fun c => by simp [setR_nil], fun c => by simp [setR_nil], fun c => by simp [hB], by simp⟩
theorem StepSt.next0 {off off' : Bool} {m0 m1 mB ms mB' : List (Cell × Bool)} (h : StepSt g F reg pb off0 0 off m0 m1 mB) (ts : AllT ms) (tb : AllT mB')
    (hs : ∀ c, setR ms c = true ↔ inG g c ∧ sweepS g (F 0) (reg 0) c = true) (hb : ∀ c, setR mB' c = true ↔ setR mB c = true ∨ inG g c ∧ sweepS g (fun b => stillP (F 0 b)) (reg 0) c = true)
    (ho : off' = true ↔ off = true ∨ (sweepO g (F 0) (reg 0) = true ∨ sweepO g (fun b => stillP (F 0 b)) (reg 0) = true)) : StepSt g F reg pb off0 1 off' ms m1 mB' := by
  refine ⟨ts, h.t1, tb, fun e => by omega, fun _ => h.e1 (by omega), fun c => by rw [hs c]; simp, fun c => by rw [h.h1 c]; simp, fun c => ?_, ?_⟩
  · rw [hb c, h.hB c]; simp
  · rw [ho, h.hO]; simp
theorem StepSt.next1 {off off' : Bool} {m0 m1 mB ms mB' : List (Cell × Bool)} (h : StepSt g F reg pb off0 1 off m0 m1 mB) (ts : AllT ms) (tb : AllT mB')
    (hs : ∀ c, setR ms c = true ↔ inG g c ∧ sweepS g (F 1) (reg 1) c = true) (hb : ∀ c, setR mB' c = true ↔ setR mB c = true ∨ inG g c ∧ sweepS g (fun b => stillP (F 1 b)) (reg 1) c = true)
    (ho : off' = true ↔ off = true ∨ (sweepO g (F 1) (reg 1) = true ∨ sweepO g (fun b => stillP (F 1 b)) (reg 1) = true)) : StepSt g F reg pb off0 2 off' m0 ms mB' := by
  refine ⟨h.t0, ts, tb, fun e => by omega, fun e => by omega, fun c => by rw [h.h0 c]; simp, fun c => by rw [hs c]; simp, fun c => ?_, ?_⟩
  · rw [hb c, h.hB c]; simp [or_assoc]
  · rw [ho, h.hO]; simp [or_assoc]
end
/-- the groups that are grown -/
structure GrowSt (g : Grid) (items : List Grp) (k : Nat) (off0 off : Bool) (mB0 ms mB : List (Cell × Bool)) : Prop where
  ts : AllT ms
  tB : AllT mB
  hs : ∀ c, setR ms c = true ↔ ∃ x ∈ items.take k, c ∈ (cellsR g (growR g x.r x.p).1).1
  hB : ∀ c, setR mB c = true ↔ setR mB0 c = true ∨ ∃ x ∈ items.take k, c ∈ (cellsR g (growR g x.r (stillP x.p)).1).1
  hO : off = true ↔ off0 = true ∨ ∃ x ∈ items.take k, (growR g x.r x.p).2.1 = true ∨ (growR g x.r (stillP x.p)).2.1 = true
theorem GrowSt.start {g : Grid} {items : List Grp} {off : Bool} {mB : List (Cell × Bool)} (tB : AllT mB) : GrowSt g items 0 off off mB [] mB :=
  ⟨AllT.nil, tB, fun c => by simp [setR_nil], fun c => by simp, by simp⟩
theorem ex_take {α : Type} {l : List α} {k : Nat} (hk : k < l.length) {P : α → Prop} : (∃ x ∈ l.take (k + 1), P x) ↔ (∃ x ∈ l.take k, P x) ∨ P l[k] := by
  rw [List.take_succ_eq_append_getElem hk]
  constructor
  · rintro ⟨x, hx, h⟩
    rcases List.mem_append.1 hx with hx | hx
    · exact .inl ⟨x, hx, h⟩
    · rw [List.mem_singleton.1 hx] at h; exact .inr h
  · rintro (⟨x, hx, h⟩ | h)
    · exact ⟨x, List.mem_append_left _ hx, h⟩
    · exact ⟨l[k], List.mem_append_right _ (List.mem_singleton.2 rfl), h⟩
theorem GrowSt.next {g : Grid} {items : List Grp} {k : Nat} {off0 off : Bool} {mB0 ms mB ms' mB' : List (Cell × Bool)} (h : GrowSt g items k off0 off mB0 ms mB) (hk : k < items.length) (ts : AllT ms → AllT ms') (tB : AllT mB → AllT mB')
    (hs : ∀ c, setR ms' c = true ↔ setR ms c = true ∨ c ∈ (cellsR g (growR g items[k].r items[k].p).1).1) (hB : ∀ c, setR mB' c = true ↔ setR mB c = true ∨ c ∈ (cellsR g (growR g items[k].r (stillP items[k].p)).1).1) :
    GrowSt g items (k + 1) off0 ((off || (growR g items[k].r items[k].p).2.1) || (growR g items[k].r (stillP items[k].p)).2.1) mB0 ms' mB' := by
  refine ⟨ts h.ts, tB h.tB, fun c => ?_, fun c => ?_, ?_⟩
  · rw [hs c, h.hs c, ex_take hk]
  · rw [hB c, h.hB c, ex_take hk, or_assoc]
  · rw [Bool.or_eq_true, Bool.or_eq_true, h.hO, ex_take hk, or_assoc, or_assoc]
theorem ex_pr {items : List Grp} {P : Push × List Run → Prop} : (∃ y ∈ items.map Grp.pr, P y) ↔ ∃ x ∈ items, P (x.p, x.r) := by
  constructor
  · rintro ⟨y, hy, h⟩
    obtain ⟨x, hx, rfl⟩ := List.mem_map.1 hy
    exact ⟨x, hx, h⟩
  · rintro ⟨x, hx, h⟩
    exact ⟨_, List.mem_map.2 ⟨x, hx, rfl⟩, h⟩
theorem GrowSt.done {g : Grid} (hg : g.ok = true) (hsm : g.W * g.H ≤ 4096) {F : Cell → Push} {r : List Run} {items : List Grp} (hG : GroupsOk g F r (items.map Grp.pr)) (hF : ∀ c, hasB r c = true → (F c).ok = true) {off0 off : Bool} {mB0 ms mB : List (Cell × Bool)} (h : GrowSt g items items.length off0 off mB0 ms mB) :
    (∀ c, setR ms c = true ↔ inG g c ∧ sweepS g F r c = true) ∧ (∀ c, setR mB c = true ↔ setR mB0 c = true ∨ inG g c ∧ sweepS g (fun b => stillP (F b)) r c = true) ∧ (off = true ↔ off0 = true ∨ (sweepO g F r = true ∨ sweepO g (fun b => stillP (F b)) r = true)) := by
  have hF2 : ∀ c, hasB r c = true → (stillP (F c)).ok = true := fun c hc => still_ok (hF c hc)
  refine ⟨fun c => ?_, fun c => ?_, ?_⟩
  · rw [h.hs c, List.take_length]
    exact (ex_pr (P := fun y => c ∈ (cellsR g (growR g y.2 y.1).1).1)).symm.trans (hG.has hg hsm id hF c)
  · rw [h.hB c, List.take_length]
    exact or_congr_right ((ex_pr (P := fun y => c ∈ (cellsR g (growR g y.2 (stillP y.1)).1).1)).symm.trans (hG.has hg hsm stillP hF2 c))
  · rw [h.hO, List.take_length]
    refine or_congr_right ?_
    have e1 := (ex_pr (items := items) (P := fun y => (growR g y.2 y.1).2.1 = true)).symm.trans (hG.off hg hsm id hF)
    have e2 := (ex_pr (items := items) (P := fun y => (growR g y.2 (stillP y.1)).2.1 = true)).symm.trans (hG.off hg hsm stillP hF2)
    simp only [id] at e1
    rw [← e1, ← e2]
    constructor
    · rintro ⟨x, hx, h | h⟩
      · exact .inl ⟨x, hx, h⟩
      · exact .inr ⟨x, hx, h⟩
    · rintro (⟨x, hx, h⟩ | ⟨x, hx, h⟩)
      · exact ⟨x, hx, .inl h⟩
      · exact ⟨x, hx, .inr h⟩
/-- the end of a step: n0, n1: the sets afloat, as they are handed out -/
theorem step_fin {g : Grid} (hg : g.ok = true) {cu wi : List Flow} {d : Drifter} {p : QP} {sec : Int} {off : Bool} {m0 m1 mB mL n0 n1 : List (Cell × Bool)} (h : StepSt g (fun i => pF cu wi d (i : Int) p.time sec) (nth2n p.l p.r) p.b p.off 2 off m0 m1 mB) (hp : ∀ c, hasB p.b c = true → inG g c)
    (hL : ∀ c, setR mL c = hasB g.land c) (k0 : ∀ c, setR n0 c = true ↔ setR m0 c = true ∨ d.jibes = true ∧ setR m1 c = true) (k1 : ∀ c, setR n1 c = true ↔ setR m1 c = true ∨ d.jibes = true ∧ setR m0 c = true) :
    stepQ g cu wi d p sec = ⟨p.time + sec, (runsR g (fun c => setR (nth3 n0 n1 mB 0) c && (setR mL c == decide ((0 : Nat) = 2)))).1, (runsR g (fun c => setR (nth3 n0 n1 mB 1) c && (setR mL c == decide ((1 : Nat) = 2)))).1, (runsR g (fun c => setR (nth3 n0 n1 mB 2) c && (setR mL c == decide ((2 : Nat) = 2)))).1, off⟩ := by
  obtain ⟨hW, hH, _, _⟩ := Grid.ok_b hg
  have f0 := h.h0
  have f1 := h.h1
  have fB := h.hB
  have fO := h.hO
  simp only [show (0 : Nat) < 2 from by omega, show (1 : Nat) < 2 from by omega, true_and] at f0 f1 fB fO
  change ∀ c, setR m0 c = true ↔ inG g c ∧ sweepS g (pF cu wi d 0 p.time sec) p.l c = true at f0
  change ∀ c, setR m1 c = true ↔ inG g c ∧ sweepS g (pF cu wi d 1 p.time sec) p.r c = true at f1
  change ∀ c, setR mB c = true ↔ hasB p.b c = true ∨ (inG g c ∧ sweepS g (fun b => stillP (pF cu wi d 0 p.time sec b)) p.l c = true) ∨ (inG g c ∧ sweepS g (fun b => stillP (pF cu wi d 1 p.time sec b)) p.r c = true) at fB
  change off = true ↔ p.off = true ∨ (sweepO g (pF cu wi d 0 p.time sec) p.l = true ∨ sweepO g (fun b => stillP (pF cu wi d 0 p.time sec b)) p.l = true) ∨ (sweepO g (pF cu wi d 1 p.time sec) p.r = true ∨ sweepO g (fun b => stillP (pF cu wi d 1 p.time sec b)) p.r = true) at fO
  have e0 : runsR g (fun c => leftS g cu wi d p sec c && (hasB g.land c == false)) = runsR g (fun c => setR (nth3 n0 n1 mB 0) c && (setR mL c == decide ((0 : Nat) = 2))) := runsR_congr (by omega) (by omega) fun c hc => by
    rw [hL c, show nth3 n0 n1 mB 0 = n0 from rfl, Bool.and_eq_true, Bool.and_eq_true, k0 c, f0 c, f1 c]
    unfold leftS
    simp [hc]
  have e1 : runsR g (fun c => rightS g cu wi d p sec c && (hasB g.land c == false)) = runsR g (fun c => setR (nth3 n0 n1 mB 1) c && (setR mL c == decide ((1 : Nat) = 2))) := runsR_congr (by omega) (by omega) fun c hc => by
    rw [hL c, show nth3 n0 n1 mB 1 = n1 from rfl, Bool.and_eq_true, Bool.and_eq_true, k1 c, f0 c, f1 c]
    unfold rightS
    simp [hc]
  have e2 : runsR g (fun c => beachS g cu wi d p sec c && (hasB g.land c == true)) = runsR g (fun c => setR (nth3 n0 n1 mB 2) c && (setR mL c == decide ((2 : Nat) = 2))) := runsR_congr (by omega) (by omega) fun c hc => by
    rw [hL c, show nth3 n0 n1 mB 2 = mB from rfl, Bool.and_eq_true, Bool.and_eq_true, fB c]
    unfold beachS
    simp [hc, or_assoc]
  have eo : offS g cu wi d p sec = off := by
    rw [Bool.eq_iff_iff, fO]
    unfold offS
    simp [or_assoc]
  unfold stepQ
  rw [e0, e1, e2, eo]
/-- groups, or an error -/
theorem groups_c2 (g : Grid) (lv cv wv rv : Value) (cu wi : List Flow) (d : Drifter) (r : List Run) (side time sec : Int) (w : World) (hl : SlR w lv g.land) (hc : FlowsIs w cv cu) (hw : FlowsIs w wv wi) (hr : SlR w rv r) (hs : seaB g cu wi d sec = true) (hsm : g.W * g.H ≤ 4096) (hrr : rightB g.W g.H r = true) :
    Calls Try.prog 235 #[seaEv g lv cv wv d, rv, .int .i64 side, .int .i64 time, .int .i64 sec] w (fun e w' => ∃ gv items ev, e = .returned (.tuple #[gv, .int .i64 ev]) ∧ ((ev = 7 ∧ knownB cu wi d side time sec r = false) ∨ (ev = 0 ∧ knownB cu wi d side time sec r = true ∧ GroupsOk g (pF cu wi d side time sec) r (items.map Grp.pr))) ∧ items.length ≤ 65536 ∧ Own w w' [trow 330 5 Grp.cs gv items, bag (items.map rowG)]) := by
  refine (groups_c g lv cv wv rv cu wi d r side time sec w hl hc hw hr hs hsm hrr).mono ?_
  rintro e w' (⟨hk, rfl, K⟩ | ⟨hk, ov, items, rfl, hG, hil, K⟩)
  · exact ⟨_, [], 7, rfl, .inl ⟨rfl, hk⟩, by simp, ((show Own _ _ ([] ++ _) from K).pack).nilRow 330 5⟩
  · exact ⟨_, items, 0, rfl, .inr ⟨rfl, hk, hG⟩, hil, K⟩
end Go.J

namespace Go.J
set_option linter.unusedSimpArgs false
set_option linter.unusedVariables false
/-! plain: narrower drifters, smaller patches -/
def Bnd.inside (a b : Bnd) : Prop := b.low ≤ a.low ∧ a.high ≤ b.high
theorem Bnd.inside.refl (a : Bnd) : a.inside a := ⟨Int.le_refl _, Int.le_refl _⟩
def Push.inside (p q : Push) : Prop := (q.Low.X ≤ p.Low.X ∧ q.Low.Y ≤ p.Low.Y) ∧ p.High.X ≤ q.High.X ∧ p.High.Y ≤ q.High.Y
theorem Push.inside.refl (p : Push) : p.inside p := ⟨⟨Int.le_refl _, Int.le_refl _⟩, Int.le_refl _, Int.le_refl _⟩
def Drifter.inside (d e : Drifter) : Prop := (Bnd.le ⟨d.dl, d.dh⟩ ∧ Bnd.inside ⟨d.dl, d.dh⟩ ⟨e.dl, e.dh⟩) ∧ (Bnd.le ⟨d.cl, d.ch⟩ ∧ Bnd.inside ⟨d.cl, d.ch⟩ ⟨e.cl, e.ch⟩) ∧ d.jibes = e.jibes
def subR (a b : List Run) : Prop := ∀ c, hasB a c = true → hasB b c = true
theorem knownB_iff {cu wi : List Flow} {d : Drifter} {side time sec : Int} {r : List Run} : knownB cu wi d side time sec r = true ↔ ∀ b, hasB r b = true → (pushR cu wi d b side time sec).2 = true := by
  unfold knownB
  simp only [List.all_eq_true, mem_cellsAll]
structure QP.sub (x y : QP) : Prop where
  time : x.time = y.time
  l : subR x.l y.l
  r : subR x.r y.r
  b : subR x.b y.b
  off : x.off = true → y.off = true
def partQ (a b : QP) : Bool := decide (a.time = b.time) && partB a.l b.l && partB a.r b.r && partB a.b b.b && (b.off || !a.off)
theorem QP.sub.part {a b : QP} (h : a.sub b) : partQ a b = true := by
  unfold partQ
  rw [partB_of h.l, partB_of h.r, partB_of h.b, decide_eq_true h.time]
  have := h.off
  cases ha : a.off <;> cases hb : b.off <;> simp_all
/-! cuts and pairs -/
theorem canon_none {W H : Int} {rs : List Run} (h : Canon W H rs) (h0 : ∀ c, hasB rs c = false) : rs = [] := by
  cases rs with
  | nil => rfl
  | cons r rs =>
    exfalso
    have hr := h.rng r (by simp)
    have := h0 ⟨r.From, r.Y⟩
    rw [hasB_iff.2 ⟨r, by simp, rfl, by simp only; omega, by simp only; omega⟩] at this
    cases this
theorem checked_two {g : Grid} (hg : g.ok = true) {a b : List Run} (ha : rightB g.W g.H a = true) (hb : rightB g.W g.H b = true) : checkedB g [a, b] = true := by
  unfold checkedB
  rw [hg]
  simp [ha, hb]
theorem two_ok {g : Grid} (hg : g.ok = true) (hs : g.W * g.H ≤ 4096) (n : Int) {a b : List Run} (ha : rightB g.W g.H a = true) (hb : rightB g.W g.H b = true) :
    (twoR n g a b).2 = 0 ∧ rightB g.W g.H (twoR n g a b).1 = true ∧ ∀ c, hasB (twoR n g a b).1 c = true ↔ inG g c ∧ twoB n (hasB a c) (hasB b c) = true := by
  unfold twoR
  rw [if_pos (checked_two hg ha hb)]
  exact runsR_small hg hs _
theorem regB_of {g : Grid} (hg : g.ok = true) (hs : g.W * g.H ≤ 4096) {i : Nat} {r : List Run} (hr : rightB g.W g.H r = true) (h : ∀ c, hasB r c = true → (hasB g.land c = decide (i = 2))) : regB g i r = true := by
  obtain ⟨hW, hH, hS, hgl⟩ := Grid.ok_b hg
  have key : (setB g i r).2 = 0 ∧ (setB g i r).1 = [] := by
    unfold setB
    split
    · rename_i hi
      rw [withoutR_two]
      obtain ⟨h1, h2, h3⟩ := two_ok hg hs 2 hr hgl
      refine ⟨h1, canon_none (canon_of_right h2) fun c => ?_⟩
      rw [Bool.eq_false_iff]
      intro hc
      have h4 := ((h3 c).1 hc).2
      unfold twoB at h4
      cases hrc : hasB r c with
      | false => rw [hrc] at h4; simp at h4
      | true =>
        have h5 := h c hrc
        rw [decide_eq_true hi] at h5
        rw [hrc, h5] at h4
        simp at h4
    · rename_i hi
      rw [bothR_two]
      obtain ⟨h1, h2, h3⟩ := two_ok hg hs 1 hr hgl
      refine ⟨h1, canon_none (canon_of_right h2) fun c => ?_⟩
      rw [Bool.eq_false_iff]
      intro hc
      have h4 := ((h3 c).1 hc).2
      unfold twoB at h4
      cases hrc : hasB r c with
      | false => rw [hrc] at h4; simp at h4
      | true =>
        have h5 := h c hrc
        rw [decide_eq_false hi] at h5
        rw [hrc, h5] at h4
        simp at h4
  unfold regB
  rw [checked_one hg hr, key.1, key.2]
  rfl
theorem patR_ok {g : Grid} (hs : g.ok = true → g.W * g.H ≤ 4096) {p : QP} (h : patR g p = true) : g.ok = true ∧ (0 ≤ p.time ∧ p.time ≤ 1073741824) ∧ (rightB g.W g.H p.l = true ∧ rightB g.W g.H p.r = true ∧ rightB g.W g.H p.b = true) ∧
    (∀ c, hasB p.l c = true → hasB g.land c = false) ∧ (∀ c, hasB p.r c = true → hasB g.land c = false) ∧ ∀ c, hasB p.b c = true → hasB g.land c = true := by
  unfold patR at h
  simp only [Bool.and_eq_true, decide_eq_true_eq] at h
  obtain ⟨⟨⟨⟨hg, ht⟩, h1⟩, h2⟩, h3⟩ := h
  obtain ⟨a1, b1⟩ := regB_ok hg (hs hg) h1
  obtain ⟨a2, b2⟩ := regB_ok hg (hs hg) h2
  obtain ⟨a3, b3⟩ := regB_ok hg (hs hg) h3
  exact ⟨hg, ht, ⟨a1, a2, a3⟩, fun c hc => by rw [b1 c hc]; rfl, fun c hc => by rw [b2 c hc]; rfl, fun c hc => by rw [b3 c hc]; rfl⟩
theorem patR_of {g : Grid} (hg : g.ok = true) (hs : g.W * g.H ≤ 4096) {p : QP} (ht : 0 ≤ p.time ∧ p.time ≤ 1073741824) (h1 : rightB g.W g.H p.l = true) (h2 : rightB g.W g.H p.r = true) (h3 : rightB g.W g.H p.b = true)
    (l1 : ∀ c, hasB p.l c = true → hasB g.land c = false) (l2 : ∀ c, hasB p.r c = true → hasB g.land c = false) (l3 : ∀ c, hasB p.b c = true → hasB g.land c = true) : patR g p = true := by
  unfold patR
  rw [hg, decide_eq_true ht, regB_of hg hs h1 (fun c hc => by rw [l1 c hc]; rfl), regB_of hg hs h2 (fun c hc => by rw [l2 c hc]; rfl), regB_of hg hs h3 (fun c hc => by rw [l3 c hc]; rfl)]
  rfl
def cutR (n : Int) (g : Grid) (p : QP) (r : List Run) : QP × Int :=
  if (patR g p && checkedB g [r]) = false then (zQP, 2) else if firstErr (fun i => twoR n g (nth3 p.l p.r p.b i) r) ≠ 0 then (zQP, firstErr (fun i => twoR n g (nth3 p.l p.r p.b i) r))
  else (⟨p.time, (twoR n g p.l r).1, (twoR n g p.r r).1, (twoR n g p.b r).1, p.off⟩, 0)
def pairR (n : Int) (g : Grid) (p q : QP) (off : Bool) : QP × Int :=
  if (patR g p && patR g q && decide (p.time = q.time)) = false then (zQP, 2) else if firstErr (fun i => twoR n g (nth3 p.l p.r p.b i) (nth3 q.l q.r q.b i)) ≠ 0 then (zQP, firstErr (fun i => twoR n g (nth3 p.l p.r p.b i) (nth3 q.l q.r q.b i)))
  else (⟨p.time, (twoR n g p.l q.l).1, (twoR n g p.r q.r).1, (twoR n g p.b q.b).1, off⟩, 0)
theorem firstErr_zero {F : Nat → List Run × Int} (h0 : (F 0).2 = 0) (h1 : (F 1).2 = 0) (h2 : (F 2).2 = 0) : firstErr F = 0 := by unfold firstErr; simp [h0, h1, h2]
theorem cutR_ok {n : Int} {g : Grid} (hs : g.ok = true → g.W * g.H ≤ 4096) {p : QP} {r : List Run} : (cutR n g p r = (zQP, 2) ∧ (patR g p && checkedB g [r]) = false) ∨
    (patR g p = true ∧ rightB g.W g.H r = true ∧ cutR n g p r = (⟨p.time, (twoR n g p.l r).1, (twoR n g p.r r).1, (twoR n g p.b r).1, p.off⟩, 0)) := by
  unfold cutR
  cases h : patR g p && checkedB g [r] with
  | false => left; simp
  | true =>
    right
    rw [Bool.and_eq_true] at h
    obtain ⟨hg, _, ⟨a1, a2, a3⟩, _⟩ := patR_ok hs h.1
    have hr := (checkedB_b h.2).2 r (by simp)
    have e := firstErr_zero (F := fun i => twoR n g (nth3 p.l p.r p.b i) r) (two_ok hg (hs hg) n a1 hr).1 (two_ok hg (hs hg) n a2 hr).1 (two_ok hg (hs hg) n a3 hr).1
    refine ⟨h.1, hr, ?_⟩
    rw [if_neg (by simp), if_neg (by rw [e]; simp)]
theorem pairR_ok {n : Int} {g : Grid} (hs : g.ok = true → g.W * g.H ≤ 4096) {p q : QP} {off : Bool} : (pairR n g p q off = (zQP, 2) ∧ (patR g p && patR g q && decide (p.time = q.time)) = false) ∨
    ((patR g p = true ∧ patR g q = true ∧ p.time = q.time) ∧ pairR n g p q off = (⟨p.time, (twoR n g p.l q.l).1, (twoR n g p.r q.r).1, (twoR n g p.b q.b).1, off⟩, 0)) := by
  unfold pairR
  cases h : patR g p && patR g q && decide (p.time = q.time) with
  | false => left; simp
  | true =>
    right
    rw [Bool.and_eq_true, Bool.and_eq_true, decide_eq_true_eq] at h
    obtain ⟨⟨h1, h2⟩, h3⟩ := h
    obtain ⟨hg, _, ⟨a1, a2, a3⟩, _⟩ := patR_ok hs h1
    obtain ⟨_, _, ⟨b1, b2, b3⟩, _⟩ := patR_ok hs h2
    have e := firstErr_zero (F := fun i => twoR n g (nth3 p.l p.r p.b i) (nth3 q.l q.r q.b i)) (two_ok hg (hs hg) n a1 b1).1 (two_ok hg (hs hg) n a2 b2).1 (two_ok hg (hs hg) n a3 b3).1
    refine ⟨⟨h1, h2, h3⟩, ?_⟩
    rw [if_neg (by simp), if_neg (by rw [e]; simp)]
/-- what of a patch is in a region is a valid patch -/
theorem cut_pat {n : Int} (hn : n = 1 ∨ n = 2) {g : Grid} (hs : g.ok = true → g.W * g.H ≤ 4096) {p : QP} {r : List Run} (hp : patR g p = true) (hr : rightB g.W g.H r = true) :
    patR g ⟨p.time, (twoR n g p.l r).1, (twoR n g p.r r).1, (twoR n g p.b r).1, p.off⟩ = true ∧ (subR (twoR n g p.l r).1 p.l ∧ subR (twoR n g p.r r).1 p.r ∧ subR (twoR n g p.b r).1 p.b) := by
  obtain ⟨hg, ht, ⟨a1, a2, a3⟩, l1, l2, l3⟩ := patR_ok hs hp
  obtain ⟨_, x1, y1⟩ := two_ok hg (hs hg) n a1 hr
  obtain ⟨_, x2, y2⟩ := two_ok hg (hs hg) n a2 hr
  obtain ⟨_, x3, y3⟩ := two_ok hg (hs hg) n a3 hr
  have key : ∀ {x y : Bool}, twoB n x y = true → x = true := fun {x y} h => by
    unfold twoB at h
    rcases hn with rfl | rfl <;> cases x <;> simp at h ⊢
  have s1 : subR (twoR n g p.l r).1 p.l := fun c hc => key ((y1 c).1 hc).2
  have s2 : subR (twoR n g p.r r).1 p.r := fun c hc => key ((y2 c).1 hc).2
  have s3 : subR (twoR n g p.b r).1 p.b := fun c hc => key ((y3 c).1 hc).2
  exact ⟨patR_of hg (hs hg) ht x1 x2 x3 (fun c hc => l1 c (s1 c hc)) (fun c hc => l2 c (s2 c hc)) (fun c hc => l3 c (s3 c hc)), s1, s2, s3⟩
/-! a drifter whose bounds are narrower -/
end Go.J

namespace Go.J
open Go.RowKit Go.Proofs
set_option maxRecDepth 8000
set_option linter.unusedSimpArgs false
set_option linter.unusedVariables false
/-! drift: a step -/
theorem za325 : tyZero Try.prog 325 = some (List.replicate 2 (.map none)) := by kernel_rfl
theorem za158 : tyZero Try.prog 158 = some (List.replicate 2 (.slice none 0 0)) := by kernel_rfl
set_option maxHeartbeats 2000000 in
theorem step151_c (g : Grid) (lv cv wv : Value) (cu wi : List Flow) (d : Drifter) (t : Int) (lf rf bf : Value) (l r b : List Run) (off : Bool) (sec : Int) (w : World) (hl : SlR w lv g.land) (hc : FlowsIs w cv cu) (hw : FlowsIs w wv wi) (h1 : SlR w lf l) (h2 : SlR w rf r) (h3 : SlR w bf b) (hs : seaB g cu wi d sec = true) (hsm : g.W * g.H ≤ 4096)
    (hp : patR g ⟨t, l, r, b, off⟩ = true) :
    Calls Try.prog 151 #[seaEv g lv cv wv d, Patch.ev ⟨t, lf, l, rf, r, bf, b, off⟩, .int .i64 sec] w (fun e w' => PatR w w' [] (stepR g cu wi d ⟨t, l, r, b, off⟩ sec) e) := by
  obtain ⟨la, lc, rfl⟩ := hl.len
  obtain ⟨ca, cc, rfl⟩ := hc.1.len
  obtain ⟨wa, wc, rfl⟩ := hw.1.len
  obtain ⟨a1, d1, rfl⟩ := h1.len
  obtain ⟨a2, d2, rfl⟩ := h2.len
  obtain ⟨a3, d3, rfl⟩ := h3.len
  obtain ⟨hgok, htm, ⟨r1, r2, r3⟩, _, _, _⟩ := patR_ok (fun _ => hsm) hp
  obtain ⟨hgW, hgH, hgS, hgl⟩ := Grid.ok_b hgok
  have hsec : 1 ≤ sec ∧ sec ≤ 43200 := by unfold seaB at hs; simp only [Bool.and_eq_true, decide_eq_true_eq] at hs; exact hs.2
  simp only at htm r1 r2 r3
  have hcan3 := canon_of_right r3
  refine calls_J (args := [seaEv g (.slice la g.land.length lc) (.slice ca cu.length cc) (.slice wa wi.length wc) d, .agg ⟨[.int .i64 t, .slice a1 l.length d1, .slice a2 r.length d2, .slice a3 b.length d3, .bool off]⟩, .int .i64 sec]) Try.func151 rfl Try.ntmps151 rfl ?_
  have H := Own.start w
  ((repeat refine JC.seq ?_); refine JC.region ?_)
  refine JL.box H rfl rfl rfl ?_
  intro b3 w1 H
  refine JL.box H rfl rfl rfl ?_
  intro b4 w2 H
  refine JL.alloc H z90 rfl ?_
  intro b6 w3 H
  refine JL.pure rfl rfl ?_
  refine JL.nil ?_
  ((repeat refine Ex.normal_block ?_); refine Ex.next ?_)
  ((repeat refine JC.seq ?_); refine JC.region ?_)
  refine JL.fieldAddr rfl Try.underlying90 rfl sh3 rfl ?_
  refine JL.loadB 1 H rfl sh3 rfl rfl rfl ?_
  refine JL.pure rfl rfl ?_
  refine JL.arith rfl (by unfold In64; omega) rfl ?_
  refine JL.pure rfl rfl ?_
  refine JL.nil ?_
  ((repeat refine Ex.normal_block ?_); refine Ex.next ?_)
  ((repeat refine JC.seq ?_); refine JC.cond rfl ?_ ?_)
  · intro h27
    (try simp only [Bool.not_eq_true', Bool.not_eq_false', decide_eq_true_eq, decide_eq_false_iff_not] at h27)
    ((repeat refine JC.seq ?_); refine JC.region ?_)
    refine JL.build s90 rfl rfl ?_
    refine JL.storeB 0 H rfl rfl sh90 rfl rfl rfl rfl rfl ?_
    intro w4 H
    refine JL.pure rfl rfl ?_
    refine JL.nil ?_
    ((repeat refine Ex.normal_block ?_); refine Ex.next ?_)
    ((repeat refine JC.seq ?_); refine JC.ret ?_)
    (repeat (first | refine Ex.ret_then ?_ | refine Ex.ret_block ?_))
    refine Ex.ret2 rfl (.cell rfl sh90 (LdAt.of_block (H.get (i := 0) rfl).2 rfl)) (.tmp rfl) ?_
    unfold stepR
    rw [if_pos (by simp only; omega)]
    exact PatR.zero (((H.drop 0).drop 0).drop 0) 4
  · intro h27
    (try simp only [Bool.not_eq_true', Bool.not_eq_false', decide_eq_true_eq, decide_eq_false_iff_not] at h27)
    ((repeat refine JC.seq ?_); refine JC.skip ?_)
    ((repeat refine Ex.normal_block ?_); refine Ex.next ?_)
    ((repeat refine JC.seq ?_); refine JC.drawX (invX w b3 b4 b6 sec off [blk b6 (.cells ⟨[.int .i64 0, .slice none 0 0, .slice none 0 0, .slice none 0 0, .bool false]⟩ 90 (0, 0)), blk b4 (.cells ⟨[.int .i64 t, .slice a1 l.length d1, .slice a2 r.length d2, .slice a3 b.length d3, .bool off]⟩ 90 (0, 0)), blk b3 (.cells ⟨[.int .i64 g.W, .int .i64 g.H, .int .i64 g.S, .slice la g.land.length lc, .slice ca cu.length cc, .slice wa wi.length wc, .int .i64 d.dl, .int .i64 d.dh, .int .i64 d.cl, .int .i64 d.ch, .bool d.jibes]⟩ 220 (0, 0))]) mixed (by kernel_rfl) ?_ ?_ ?_)
    · intro a9 Ha9
      unfold invX
      exact ⟨(by intro h; cases h), (by intro h; cases h), 0, 0, 0, 0, Ha9.sub (show Fr.sub _ (frX b3 b4 b6 sec off (fun _ => false) 0 0 0 0) from ⟨rfl, rfl, rfl, rfl, trivial⟩), H.drew⟩
    · intro i o l9 a9 w9 ho hl9 hd9 hI
      obtain ⟨h6, h7, β0, β1, b8, b9, Ha, H⟩ := hI
      have hlt : i < 9 := (Array.getElem?_eq_some_iff.1 ho).1
      have hbase : ∀ (fr : Fr), (∀ t, t = 2 ∨ t = 3 ∨ t = 4 ∨ t = 6 → fr.get t = Fr.get (frX b3 b4 b6 sec off l9 β0 β1 b8 b9) t) → ∀ t, t = 2 ∨ t = 3 ∨ t = 4 ∨ t = 6 → fr.get t = Fr.get (frX b3 b4 b6 sec off l9 β0 β1 b8 b9) t := fun _ h => h
      rcases (show i = 0 ∨ i = 1 ∨ i = 2 ∨ i = 3 ∨ i = 4 ∨ i = 5 ∨ i = 6 ∨ i = 7 ∨ i = 8 by omega) with rfl | rfl | rfl | rfl | rfl | rfl | rfl | rfl | rfl
      · obtain rfl := Option.some.inj ho
        have e6 : l9 6 = false := Bool.eq_false_iff.2 fun h => by have := h6 h; simp [hl9] at this
        refine (JL.makeMap Cell.ev Value.bool H rfl fun β' w' H' => JL.nil fun a' Ha9 => ?_) a9 Ha
        refine ⟨(by intro h; simp at h; obtain ⟨x, y⟩ := h6 h; simp [x, y]) , (by intro h; simp at h; obtain ⟨x, y⟩ := h7 h; simp [x, y]), β', β1, b8, b9, ?_, ?_⟩
        · exact frX_next (l := l9) (β0 := β0) (β1 := β1) (b8 := b8) (b9 := b9) Ha9 (by rintro t (rfl | rfl | rfl | rfl) <;> simp [Fr.put, frX, Fr.get_cons, fit_get]) (by intro h; simp [Fr.put, frX, Fr.get_cons, fit_get]) (by intro h; simp at h; simp [Fr.put, frX, Fr.get_cons, fit_get, h]) (by intro h; simp at h; simp [Fr.put, frX, Fr.get_cons, fit_get, h]) (by intro h; simp at h; simp [Fr.put, frX, Fr.get_cons, fit_get, h]) (by intro h; simp at h; simp [Fr.put, frX, Fr.get_cons, fit_get, h]) (by intro h; simp at h; simp [Fr.put, frX, Fr.get_cons, fit_get, h]) (by intro h; simp at h; simp [Fr.put, frX, Fr.get_cons, fit_get, h])
        · simp [mmX, hl9, e6, mit_true, mit_false] at H' ⊢; exact H'
      · obtain rfl := Option.some.inj ho
        have e7 : l9 7 = false := Bool.eq_false_iff.2 fun h => by have := h7 h; simp [hl9] at this
        refine (JL.makeMap Cell.ev Value.bool H rfl fun β' w' H' => JL.nil fun a' Ha9 => ?_) a9 Ha
        refine ⟨(by intro h; simp at h; obtain ⟨x, y⟩ := h6 h; simp [x, y]) , (by intro h; simp at h; obtain ⟨x, y⟩ := h7 h; simp [x, y]), β0, β', b8, b9, ?_, ?_⟩
        · exact frX_next (l := l9) (β0 := β0) (β1 := β1) (b8 := b8) (b9 := b9) Ha9 (by rintro t (rfl | rfl | rfl | rfl) <;> simp [Fr.put, frX, Fr.get_cons, fit_get]) (by intro h; simp at h; simp [Fr.put, frX, Fr.get_cons, fit_get, h]) (by intro h; simp [Fr.put, frX, Fr.get_cons, fit_get]) (by intro h; simp at h; simp [Fr.put, frX, Fr.get_cons, fit_get, h]) (by intro h; simp at h; simp [Fr.put, frX, Fr.get_cons, fit_get, h]) (by intro h; simp at h; simp [Fr.put, frX, Fr.get_cons, fit_get, h]) (by intro h; simp at h; simp [Fr.put, frX, Fr.get_cons, fit_get, h]) (by intro h; simp at h; simp [Fr.put, frX, Fr.get_cons, fit_get, h])
        · simp [mmX, hl9, e7, mit_true, mit_false] at H' ⊢; exact H'.perm mit_perm.symm
      · obtain rfl := Option.some.inj ho
    
        refine (JL.fieldAddr (β := b4) (off := 0) (by simp [Fr.ev, frX, Fr.get_cons, fit_get]) Try.underlying90 rfl sh4 rfl (JL.nil fun a' Ha9 => ?_)) a9 Ha
        refine ⟨(by intro h; simp at h; obtain ⟨x, y⟩ := h6 h; simp [x, y]) , (by intro h; simp at h; obtain ⟨x, y⟩ := h7 h; simp [x, y]), β0, β1, b8, b9, ?_, ?_⟩
        · exact frX_next (l := l9) (β0 := β0) (β1 := β1) (b8 := b8) (b9 := b9) Ha9 (by rintro t (rfl | rfl | rfl | rfl) <;> simp [Fr.put, frX, Fr.get_cons, fit_get]) (by intro h; simp at h; simp [Fr.put, frX, Fr.get_cons, fit_get, h]) (by intro h; simp at h; simp [Fr.put, frX, Fr.get_cons, fit_get, h]) (by intro h; simp [Fr.put, frX, Fr.get_cons, fit_get]) (by intro h; simp at h; simp [Fr.put, frX, Fr.get_cons, fit_get, h]) (by intro h; simp at h; simp [Fr.put, frX, Fr.get_cons, fit_get, h]) (by intro h; simp at h; simp [Fr.put, frX, Fr.get_cons, fit_get, h]) (by intro h; simp at h; simp [Fr.put, frX, Fr.get_cons, fit_get, h])
        · simp [mmX] at H ⊢; exact H
      · obtain rfl := Option.some.inj ho
    
        refine (JL.load (β := b4) (off := 4) (v := .bool off) (by simp [Fr.ev, frX, Fr.get_cons, fit_get, hd9 2 rfl]) sh4 (LdAt.of_block (Own.get (i := 1) H.unmit.unmit.unmit.unmit rfl).2 rfl) rfl (JL.nil fun a' Ha9 => ?_)) a9 Ha
        refine ⟨(by intro h; simp at h; obtain ⟨x, y⟩ := h6 h; simp [x, y]) , (by intro h; simp at h; obtain ⟨x, y⟩ := h7 h; simp [x, y]), β0, β1, b8, b9, ?_, ?_⟩
        · exact frX_next (l := l9) (β0 := β0) (β1 := β1) (b8 := b8) (b9 := b9) Ha9 (by rintro t (rfl | rfl | rfl | rfl) <;> simp [Fr.put, frX, Fr.get_cons, fit_get]) (by intro h; simp at h; simp [Fr.put, frX, Fr.get_cons, fit_get, h]) (by intro h; simp at h; simp [Fr.put, frX, Fr.get_cons, fit_get, h]) (by intro h; simp at h; simp [Fr.put, frX, Fr.get_cons, fit_get, h]) (by intro h; simp [Fr.put, frX, Fr.get_cons, fit_get]) (by intro h; simp at h; simp [Fr.put, frX, Fr.get_cons, fit_get, h]) (by intro h; simp at h; simp [Fr.put, frX, Fr.get_cons, fit_get, h]) (by intro h; simp at h; simp [Fr.put, frX, Fr.get_cons, fit_get, h])
        · simp [mmX] at H ⊢; exact H
      · obtain rfl := Option.some.inj ho
        have e6 : l9 6 = false := Bool.eq_false_iff.2 fun h => by have := h6 h; simp [hl9] at this
        refine (JL.alloc H z290 rfl fun b' w' H' => JL.nil fun a' Ha9 => ?_) a9 Ha
        refine ⟨(by intro h; simp at h; obtain ⟨x, y⟩ := h6 h; simp [x, y]) , (by intro h; simp at h; obtain ⟨x, y⟩ := h7 h; simp [x, y]), β0, β1, b', b9, ?_, ?_⟩
        · exact frX_next (l := l9) (β0 := β0) (β1 := β1) (b8 := b8) (b9 := b9) Ha9 (by rintro t (rfl | rfl | rfl | rfl) <;> simp [Fr.put, frX, Fr.get_cons, fit_get]) (by intro h; simp at h; simp [Fr.put, frX, Fr.get_cons, fit_get, h]) (by intro h; simp at h; simp [Fr.put, frX, Fr.get_cons, fit_get, h]) (by intro h; simp at h; simp [Fr.put, frX, Fr.get_cons, fit_get, h]) (by intro h; simp at h; simp [Fr.put, frX, Fr.get_cons, fit_get, h]) (by intro h; simp [Fr.put, frX, Fr.get_cons, fit_get]) (by intro h; simp at h; simp [Fr.put, frX, Fr.get_cons, fit_get, h]) (by intro h; simp at h; simp [Fr.put, frX, Fr.get_cons, fit_get, h])
        · simp [mmX, hl9, e6, mit_true, mit_false] at H' ⊢; exact H'.perm (mit_perm.symm.trans (mit_mono mit_perm.symm))
      · obtain rfl := Option.some.inj ho
        have e7 : l9 7 = false := Bool.eq_false_iff.2 fun h => by have := h7 h; simp [hl9] at this
        refine (JL.alloc H z290 rfl fun b' w' H' => JL.nil fun a' Ha9 => ?_) a9 Ha
        refine ⟨(by intro h; simp at h; obtain ⟨x, y⟩ := h6 h; simp [x, y]) , (by intro h; simp at h; obtain ⟨x, y⟩ := h7 h; simp [x, y]), β0, β1, b8, b', ?_, ?_⟩
        · exact frX_next (l := l9) (β0 := β0) (β1 := β1) (b8 := b8) (b9 := b9) Ha9 (by rintro t (rfl | rfl | rfl | rfl) <;> simp [Fr.put, frX, Fr.get_cons, fit_get]) (by intro h; simp at h; simp [Fr.put, frX, Fr.get_cons, fit_get, h]) (by intro h; simp at h; simp [Fr.put, frX, Fr.get_cons, fit_get, h]) (by intro h; simp at h; simp [Fr.put, frX, Fr.get_cons, fit_get, h]) (by intro h; simp at h; simp [Fr.put, frX, Fr.get_cons, fit_get, h]) (by intro h; simp at h; simp [Fr.put, frX, Fr.get_cons, fit_get, h]) (by intro h; simp [Fr.put, frX, Fr.get_cons, fit_get]) (by intro h; simp at h; simp [Fr.put, frX, Fr.get_cons, fit_get, h])
        · simp [mmX, hl9, e7, mit_true, mit_false] at H' ⊢; exact H'.perm (mit_perm.symm.trans (mit_mono (mit_perm.symm.trans (mit_mono mit_perm.symm))))
      · obtain rfl := Option.some.inj ho
        have q0 : l9 0 = true := hd9 0 rfl
        have q4 : l9 4 = true := hd9 4 rfl
        have H1 : Own w w9 (setM β0 [] :: blk b8 (.cells ⟨[.map none]⟩ 290 (0, 0)) :: mit (l9 1) (setM β1 []) (mit (l9 5) (blk b9 (.cells ⟨[if l9 7 = true then .map (some β1) else .map none]⟩ 290 (0, 0))) [blk b6 (.cells ⟨[.int .i64 0, .slice none 0 0, .slice none 0 0, .slice none 0 0, .bool false]⟩ 90 (0, 0)), blk b4 (.cells ⟨[.int .i64 t, .slice a1 l.length d1, .slice a2 r.length d2, .slice a3 b.length d3, .bool off]⟩ 90 (0, 0)), blk b3 (.cells ⟨[.int .i64 g.W, .int .i64 g.H, .int .i64 g.S, .slice la g.land.length lc, .slice ca cu.length cc, .slice wa wi.length wc, .int .i64 d.dl, .int .i64 d.dh, .int .i64 d.cl, .int .i64 d.ch, .bool d.jibes]⟩ 220 (0, 0))])) := by
          simp [mmX, hl9, q0, q4, mit_true] at H
          exact H.perm (mit_perm.cons _)
        refine (JL.storeB (β := b8) (off := 0) (v := .map (some β0)) 1 H1 (by simp [Fr.ev, frX, Fr.get_cons, fit_get, q4]) (by simp [Fr.ev, frX, Fr.get_cons, fit_get, q0]) sh290 rfl rfl rfl rfl rfl fun w' H' => JL.nil fun a' Ha9 => ?_) a9 Ha
        refine ⟨(by intro h; simp [q0, q4]), (by intro h; simp at h; obtain ⟨x, y⟩ := h7 h; simp [x, y]), β0, β1, b8, b9, ?_, ?_⟩
        · exact frX_next (l := l9) (β0 := β0) (β1 := β1) (b8 := b8) (b9 := b9) Ha9 (by rintro t (rfl | rfl | rfl | rfl) <;> simp [Fr.put, frX, Fr.get_cons, fit_get]) (by intro h; simp at h; simp [Fr.put, frX, Fr.get_cons, fit_get, h]) (by intro h; simp at h; simp [Fr.put, frX, Fr.get_cons, fit_get, h]) (by intro h; simp at h; simp [Fr.put, frX, Fr.get_cons, fit_get, h]) (by intro h; simp at h; simp [Fr.put, frX, Fr.get_cons, fit_get, h]) (by intro h; simp at h; simp [Fr.put, frX, Fr.get_cons, fit_get, h]) (by intro h; simp at h; simp [Fr.put, frX, Fr.get_cons, fit_get, h]) (by intro h; simp at h; simp [Fr.put, frX, Fr.get_cons, fit_get, h])
        · simp [mmX, q0, q4, mit_true] at H' ⊢; exact H'.perm (mit_perm.symm.cons _)
      · obtain rfl := Option.some.inj ho
        have q1 : l9 1 = true := hd9 1 rfl
        have q5 : l9 5 = true := hd9 5 rfl
        have pm : ∀ A C : HP, (mit (l9 0) (setM β0 []) (setM β1 [] :: mit (l9 4) A (C :: [blk b6 (.cells ⟨[.int .i64 0, .slice none 0 0, .slice none 0 0, .slice none 0 0, .bool false]⟩ 90 (0, 0)), blk b4 (.cells ⟨[.int .i64 t, .slice a1 l.length d1, .slice a2 r.length d2, .slice a3 b.length d3, .bool off]⟩ 90 (0, 0)), blk b3 (.cells ⟨[.int .i64 g.W, .int .i64 g.H, .int .i64 g.S, .slice la g.land.length lc, .slice ca cu.length cc, .slice wa wi.length wc, .int .i64 d.dl, .int .i64 d.dh, .int .i64 d.cl, .int .i64 d.ch, .bool d.jibes]⟩ 220 (0, 0))]))).Perm (C :: mit (l9 0) (setM β0 []) (setM β1 [] :: mit (l9 4) A [blk b6 (.cells ⟨[.int .i64 0, .slice none 0 0, .slice none 0 0, .slice none 0 0, .bool false]⟩ 90 (0, 0)), blk b4 (.cells ⟨[.int .i64 t, .slice a1 l.length d1, .slice a2 r.length d2, .slice a3 b.length d3, .bool off]⟩ 90 (0, 0)), blk b3 (.cells ⟨[.int .i64 g.W, .int .i64 g.H, .int .i64 g.S, .slice la g.land.length lc, .slice ca cu.length cc, .slice wa wi.length wc, .int .i64 d.dl, .int .i64 d.dh, .int .i64 d.cl, .int .i64 d.ch, .bool d.jibes]⟩ 220 (0, 0))])) := fun A C => (mit_mono ((mit_perm.cons _).trans (List.Perm.swap _ _ _))).trans mit_perm
        have H1 : Own w w9 (blk b9 (.cells ⟨[.map none]⟩ 290 (0, 0)) :: mit (l9 0) (setM β0 []) (setM β1 [] :: mit (l9 4) (blk b8 (.cells ⟨[if l9 6 = true then .map (some β0) else .map none]⟩ 290 (0, 0))) [blk b6 (.cells ⟨[.int .i64 0, .slice none 0 0, .slice none 0 0, .slice none 0 0, .bool false]⟩ 90 (0, 0)), blk b4 (.cells ⟨[.int .i64 t, .slice a1 l.length d1, .slice a2 r.length d2, .slice a3 b.length d3, .bool off]⟩ 90 (0, 0)), blk b3 (.cells ⟨[.int .i64 g.W, .int .i64 g.H, .int .i64 g.S, .slice la g.land.length lc, .slice ca cu.length cc, .slice wa wi.length wc, .int .i64 d.dl, .int .i64 d.dh, .int .i64 d.cl, .int .i64 d.ch, .bool d.jibes]⟩ 220 (0, 0))])) := by
          simp [mmX, hl9, q1, q5, mit_true] at H
          exact H.perm (pm _ _)
        refine (JL.storeB (β := b9) (off := 0) (v := .map (some β1)) 0 H1 (by simp [Fr.ev, frX, Fr.get_cons, fit_get, q5]) (by simp [Fr.ev, frX, Fr.get_cons, fit_get, q1]) sh290 rfl rfl rfl rfl rfl fun w' H' => JL.nil fun a' Ha9 => ?_) a9 Ha
        refine ⟨(by intro h; simp at h; obtain ⟨x, y⟩ := h6 h; simp [x, y]), (by intro h; simp [q1, q5]), β0, β1, b8, b9, ?_, ?_⟩
        · exact frX_next (l := l9) (β0 := β0) (β1 := β1) (b8 := b8) (b9 := b9) Ha9 (by rintro t (rfl | rfl | rfl | rfl) <;> simp [Fr.put, frX, Fr.get_cons, fit_get]) (by intro h; simp at h; simp [Fr.put, frX, Fr.get_cons, fit_get, h]) (by intro h; simp at h; simp [Fr.put, frX, Fr.get_cons, fit_get, h]) (by intro h; simp at h; simp [Fr.put, frX, Fr.get_cons, fit_get, h]) (by intro h; simp at h; simp [Fr.put, frX, Fr.get_cons, fit_get, h]) (by intro h; simp at h; simp [Fr.put, frX, Fr.get_cons, fit_get, h]) (by intro h; simp at h; simp [Fr.put, frX, Fr.get_cons, fit_get, h]) (by intro h; simp at h; simp [Fr.put, frX, Fr.get_cons, fit_get, h])
        · simp [mmX, q1, q5, mit_true] at H' ⊢; exact H'.perm (pm _ _).symm
      · obtain rfl := Option.some.inj ho
    
        refine (JL.pure (v := .bool off) (by simp [pureOp, Fr.ev, frX, Fr.get_cons, fit_get, hd9 3 rfl]) rfl (JL.nil fun a' Ha9 => ?_)) a9 Ha
        refine ⟨(by intro h; simp at h; obtain ⟨x, y⟩ := h6 h; simp [x, y]) , (by intro h; simp at h; obtain ⟨x, y⟩ := h7 h; simp [x, y]), β0, β1, b8, b9, ?_, ?_⟩
        · exact frX_next (l := l9) (β0 := β0) (β1 := β1) (b8 := b8) (b9 := b9) Ha9 (by rintro t (rfl | rfl | rfl | rfl) <;> simp [Fr.put, frX, Fr.get_cons, fit_get]) (by intro h; simp at h; simp [Fr.put, frX, Fr.get_cons, fit_get, h]) (by intro h; simp at h; simp [Fr.put, frX, Fr.get_cons, fit_get, h]) (by intro h; simp at h; simp [Fr.put, frX, Fr.get_cons, fit_get, h]) (by intro h; simp at h; simp [Fr.put, frX, Fr.get_cons, fit_get, h]) (by intro h; simp at h; simp [Fr.put, frX, Fr.get_cons, fit_get, h]) (by intro h; simp at h; simp [Fr.put, frX, Fr.get_cons, fit_get, h]) (by intro h; simp [Fr.put, frX, Fr.get_cons, fit_get])
        · simp [mmX] at H ⊢; exact H
    intro l9 a9 w9 hall hI
    obtain ⟨_, _, βl, βb, b8, b9, Ha9, H⟩ := hI
    have q0 := hall 0 (by decide)
    have q1 := hall 1 (by decide)
    have q4 := hall 4 (by decide)
    have q5 := hall 5 (by decide)
    have q6 := hall 6 (by decide)
    have q7 := hall 7 (by decide)
    have q8 := hall 8 (by decide)
    have Ha8 : Has ⟨134, [], none⟩ [(2, .int .i64 sec), (3, .pointer (some ⟨b3, 0, none⟩)), (4, .pointer (some ⟨b4, 0, none⟩)), (6, .pointer (some ⟨b6, 0, none⟩)), (8, .pointer (some ⟨b8, 0, none⟩)), (9, .pointer (some ⟨b9, 0, none⟩)), (10, .bool off)] a9 :=
      Ha9.sub ⟨by simp [frX, Fr.get_cons, fit_get], by simp [frX, Fr.get_cons, fit_get], by simp [frX, Fr.get_cons, fit_get], by simp [frX, Fr.get_cons, fit_get], by simp [frX, Fr.get_cons, fit_get, q4], by simp [frX, Fr.get_cons, fit_get, q5], by simp [frX, Fr.get_cons, fit_get, q8], trivial⟩
    replace H : Own w w9 [setM βl [], setM βb [], blk b8 (.cells ⟨[.map (some βl)]⟩ 290 (0, 0)), blk b9 (.cells ⟨[.map (some βb)]⟩ 290 (0, 0)), blk b6 (.cells ⟨[.int .i64 0, .slice none 0 0, .slice none 0 0, .slice none 0 0, .bool false]⟩ 90 (0, 0)), blk b4 (.cells ⟨[.int .i64 t, .slice a1 l.length d1, .slice a2 r.length d2, .slice a3 b.length d3, .bool off]⟩ 90 (0, 0)), blk b3 (.cells ⟨[.int .i64 g.W, .int .i64 g.H, .int .i64 g.S, .slice la g.land.length lc, .slice ca cu.length cc, .slice wa wi.length wc, .int .i64 d.dl, .int .i64 d.dh, .int .i64 d.cl, .int .i64 d.ch, .bool d.jibes]⟩ 220 (0, 0))] := by
      simp [mmX, q0, q1, q4, q5, q6, q7, mit_true] at H
      exact H
    refine (?_ : Ex _ _ .normal _ w9) a9 Ha8
    clear hall Ha9 Ha8 q0 q1 q4 q5 q6 q7 q8
    ((repeat refine Ex.normal_block ?_); refine Ex.next ?_)
    ((repeat refine JC.seq ?_); refine JC.region ?_)
    refine JL.loadB 2 H rfl sh290 rfl rfl rfl ?_
    refine JL.fieldAddr rfl Try.underlying220 rfl sh52 rfl ?_
    refine JL.loadB 6 H rfl sh52 rfl rfl rfl ?_
    refine JL.fieldAddr rfl Try.underlying220 rfl sh52 rfl ?_
    refine JL.fieldAddr rfl Try.underlying52 rfl sh50 rfl ?_
    refine JL.loadB 6 H rfl sh50 rfl rfl rfl ?_
    refine JL.call fb203 rfl rfl (setAdd_c g _ (.slice la g.land.length lc) g.land _ H (fun w' m' h => hl.grow h.below) (fun w' m' h => hl.grow h.below)) ?_
    rintro _ w5 ⟨rfl, mL, H, hmL, _, _⟩
    rw [cells_right hgok hgl] at hmL
    refine ⟨_, rfl, ?_⟩
    refine JL.nil ?_
    ((repeat refine Ex.normal_block ?_); refine Ex.next ?_)
    ((repeat refine JC.seq ?_); refine JC.region ?_)
    refine JL.loadB 3 H rfl sh290 rfl rfl rfl ?_
    refine JL.fieldAddr rfl Try.underlying220 rfl sh52 rfl ?_
    refine JL.loadB 6 H rfl sh52 rfl rfl rfl ?_
    refine JL.fieldAddr rfl Try.underlying90 rfl sh50 rfl ?_
    refine JL.loadB 5 H rfl sh50 rfl rfl rfl ?_
    have H := H.front 1 rfl
    refine JL.call fb203 rfl rfl (setAdd_c g _ (.slice a3 b.length d3) b _ H (fun w' m' h => hl.grow h.below) (fun w' m' h => h3.grow h.below)) ?_
    rintro _ w6 ⟨rfl, mB0, H, hmB0, _, htB0⟩
    rw [cells_right hgok r3] at hmB0
    refine ⟨_, rfl, ?_⟩
    refine JL.nil ?_
    ((repeat refine Ex.normal_block ?_); refine Ex.next ?_)
    ((repeat refine JC.seq ?_); refine JC.region ?_)
    refine JL.makeMap Cell.ev Value.bool H rfl ?_
    intro α0 w1 H
    refine JL.makeMap Cell.ev Value.bool H rfl ?_
    intro α1 w1 H
    refine JL.buildA Try.underlying325 sh290 za325 rfl rfl ?_
    refine JL.alloc H z325 rfl ?_
    intro b11 w7 H
    refine JL.storeB 0 H rfl rfl sh325 rfl rfl rfl rfl rfl ?_
    intro w8 H
    refine JL.nil ?_
    ((repeat refine Ex.normal_block ?_); refine Ex.next ?_)
    ((repeat refine JC.seq ?_); refine JC.region ?_)
    refine JL.fieldAddr rfl Try.underlying90 rfl sh50 rfl ?_
    refine JL.loadB 8 H rfl sh50 rfl rfl rfl ?_
    refine JL.fieldAddr rfl Try.underlying90 rfl sh50 rfl ?_
    refine JL.loadB 8 H rfl sh50 rfl rfl rfl ?_
    refine JL.buildA Try.underlying158 sh50 za158 rfl rfl ?_
    refine JL.pure rfl rfl ?_
    refine JL.nil ?_
    ((repeat refine Ex.normal_block ?_); refine Ex.next ?_)
    ((repeat refine JC.seq ?_); refine JC.block ?_)
    ((repeat refine JC.seq ?_); refine JC.loop (ι := Nat × Bool × List (Cell × Bool) × List (Cell × Bool) × List (Cell × Bool)) (fun x => [(2, .int .i64 sec), (3, .pointer (some ⟨b3, 0, none⟩)), (4, .pointer (some ⟨b4, 0, none⟩)), (6, .pointer (some ⟨b6, 0, none⟩)), (8, .pointer (some ⟨b8, 0, none⟩)), (9, .pointer (some ⟨b9, 0, none⟩)), (10, .bool x.2.1), (11, .pointer (some ⟨b11, 0, none⟩)), (53, .agg ⟨[.slice a1 l.length d1, .slice a2 r.length d2]⟩), (54, .int .i64 x.1)])
      (fun x wr => x.1 ≤ 2 ∧ (StepSt g (fun i => pF cu wi d (i : Int) t sec) (nth2n l r) b off x.1 x.2.1 x.2.2.1 x.2.2.2.1 x.2.2.2.2 ∧ (0 < x.1 → knownB cu wi d 0 t sec l = true) ∧ (1 < x.1 → knownB cu wi d 1 t sec r = true)) ∧ Own w wr [setM α0 x.2.2.1, setM α1 x.2.2.2.1, setM βb x.2.2.2.2, setM βl mL, blk b11 (.cells ⟨[.map (some α0), .map (some α1)]⟩ 325 (0, 0)), blk b8 (.cells ⟨[.map (some βl)]⟩ 290 (0, 0)), blk b9 (.cells ⟨[.map (some βb)]⟩ 290 (0, 0)), blk b6 (.cells ⟨[.int .i64 0, .slice none 0 0, .slice none 0 0, .slice none 0 0, .bool false]⟩ 90 (0, 0)), blk b4 (.cells ⟨[.int .i64 t, .slice a1 l.length d1, .slice a2 r.length d2, .slice a3 b.length d3, .bool off]⟩ 90 (0, 0)), blk b3 (.cells ⟨[.int .i64 g.W, .int .i64 g.H, .int .i64 g.S, .slice la g.land.length lc, .slice ca cu.length cc, .slice wa wi.length wc, .int .i64 d.dl, .int .i64 d.dh, .int .i64 d.cl, .int .i64 d.ch, .bool d.jibes]⟩ 220 (0, 0))]) (fun x => 2 - x.1) (0, off, [], [], mB0) ?_ ?_ ?_)
    · exact ⟨rfl, rfl, rfl, rfl, rfl, rfl, rfl, rfl, rfl, rfl, trivial⟩
    · exact ⟨Nat.zero_le _, ⟨StepSt.start (htB0 AllT.nil) (fun c => (hmB0 c).trans (by rw [setR_nil, mem_cellsAll]; simp)), by omega, by omega⟩, (((H.front 4 rfl).front 4 rfl).front 3 rfl).front 4 rfl⟩
    · rintro ⟨i, of0, m0, m1, mB⟩ wr ⟨hi, ⟨hS, hk0, hk1⟩, H⟩
      simp only at hi hS hk0 hk1 H
      show JC _ _ _ _ [(2, .int .i64 sec), (3, .pointer (some ⟨b3, 0, none⟩)), (4, .pointer (some ⟨b4, 0, none⟩)), (6, .pointer (some ⟨b6, 0, none⟩)), (8, .pointer (some ⟨b8, 0, none⟩)), (9, .pointer (some ⟨b9, 0, none⟩)), (10, .bool of0), (11, .pointer (some ⟨b11, 0, none⟩)), (53, .agg ⟨[.slice a1 l.length d1, .slice a2 r.length d2]⟩), (54, .int .i64 i)] _
      ((repeat refine JC.seq ?_); refine JC.region ?_)
      refine JL.pure rfl rfl ?_
      refine JL.nil ?_
      ((repeat refine Ex.normal_block ?_); refine Ex.next ?_)
      ((repeat refine JC.seq ?_); refine JC.cond rfl ?_ ?_)
      · intro h55
        (try simp only [Bool.not_eq_true', Bool.not_eq_false', decide_eq_true_eq, decide_eq_false_iff_not] at h55)
        have h55 : i < 2 := by omega
        obtain ⟨za, q, zc, hzv, hzs, hzr, hzn⟩ : ∃ (za : Option Addr) (q : List Run) (zc : Nat), [Value.slice a1 l.length d1, Value.slice a2 r.length d2][i]? = some (.slice za q.length zc) ∧ SlR w (.slice za q.length zc) q ∧ rightB g.W g.H q = true ∧ q = nth2n l r i := by
          rcases (show i = 0 ∨ i = 1 by omega) with rfl | rfl
          · exact ⟨_, _, _, rfl, h1, r1, rfl⟩
          · exact ⟨_, _, _, rfl, h2, r2, rfl⟩
        obtain ⟨αs, αo, mo, hαs, hsel, H⟩ : ∃ αs αo mo, [Value.map (some α0), Value.map (some α1)][i]? = some (.map (some αs)) ∧ ((i = 0 ∧ αs = α0 ∧ αo = α1 ∧ mo = m1) ∨ (i = 1 ∧ αs = α1 ∧ αo = α0 ∧ mo = m0)) ∧ Own w wr [setM αs [], setM αo mo, setM βb mB, setM βl mL, blk b11 (.cells ⟨[.map (some α0), .map (some α1)]⟩ 325 (0, 0)), blk b8 (.cells ⟨[.map (some βl)]⟩ 290 (0, 0)), blk b9 (.cells ⟨[.map (some βb)]⟩ 290 (0, 0)), blk b6 (.cells ⟨[.int .i64 0, .slice none 0 0, .slice none 0 0, .slice none 0 0, .bool false]⟩ 90 (0, 0)), blk b4 (.cells ⟨[.int .i64 t, .slice a1 l.length d1, .slice a2 r.length d2, .slice a3 b.length d3, .bool off]⟩ 90 (0, 0)), blk b3 (.cells ⟨[.int .i64 g.W, .int .i64 g.H, .int .i64 g.S, .slice la g.land.length lc, .slice ca cu.length cc, .slice wa wi.length wc, .int .i64 d.dl, .int .i64 d.dh, .int .i64 d.cl, .int .i64 d.ch, .bool d.jibes]⟩ 220 (0, 0))] := by
          rcases (show i = 0 ∨ i = 1 by omega) with rfl | rfl
          · exact ⟨α0, α1, m1, rfl, .inl ⟨rfl, rfl, rfl, rfl⟩, by have e := hS.e0 rfl; rw [e] at H; exact H⟩
          · exact ⟨α1, α0, m0, rfl, .inr ⟨rfl, rfl, rfl, rfl⟩, by have e := hS.e1 (by omega); rw [e] at H; exact H.front 1 rfl⟩
        have hpok : ∀ c, hasB q c = true → knownB cu wi d (i : Int) t sec q = true → (pF cu wi d (i : Int) t sec c).ok = true := fun c hcq hkq => push_ok hs (knownB_iff.1 hkq c hcq)
        ((repeat refine JC.seq ?_); refine JC.skip ?_)
        ((repeat refine Ex.normal_block ?_); refine Ex.next ?_)
        ((repeat refine JC.seq ?_); refine JC.block ?_)
        ((repeat refine JC.seq ?_); refine JC.region ?_)
        refine JL.pure rfl rfl ?_
        refine JL.index1 i rfl rfl Try.underlying158 sh50 rfl h55 hzv rfl ?_
        refine JL.pure rfl rfl ?_
        refine JL.pure rfl rfl ?_
        refine JL.nil ?_
        ((repeat refine Ex.normal_block ?_); refine Ex.next ?_)
        ((repeat refine JC.seq ?_); refine JC.region ?_)
        refine JL.loadB 9 H rfl sh220 rfl rfl rfl ?_
        refine JL.pure rfl rfl ?_
        refine JL.pure rfl rfl ?_
        refine JL.fieldAddr rfl Try.underlying90 rfl sh3 rfl ?_
        refine JL.loadB 8 H rfl sh3 rfl rfl rfl ?_
        refine JL.pure rfl rfl ?_
        refine JL.call fb235 rfl rfl (groups_c2 g _ _ _ (.slice za q.length zc) cu wi d q (i : Int) t sec _ (hl.grow H.below) (hc.grow H.below) (hw.grow H.below) (hzs.grow H.below) hs hsm hzr) ?_
        rintro _ w9 ⟨gv, items, ev, rfl, hev, hil, K⟩
        obtain ⟨ga, gc, rfl⟩ := K.row_slice (j := 0) rfl
        have H := H.join K
        refine ⟨_, rfl, ?_⟩
        refine JL.pure rfl rfl ?_
        refine JL.pure rfl rfl ?_
        refine JL.pure rfl rfl ?_
        refine JL.pure rfl rfl ?_
        refine JL.pure rfl rfl ?_
        refine JL.nil ?_
        ((repeat refine Ex.normal_block ?_); refine Ex.next ?_)
        ((repeat refine JC.seq ?_); refine JC.region ?_)
        refine JL.pure rfl rfl ?_
        refine JL.pure rfl rfl ?_
        refine JL.nil ?_
        ((repeat refine Ex.normal_block ?_); refine Ex.next ?_)
        ((repeat refine JC.seq ?_); refine JC.cond rfl ?_ ?_)
        · intro h69
          (try simp only [Bool.not_eq_true', Bool.not_eq_false', decide_eq_true_eq, decide_eq_false_iff_not] at h69)
          have hev7 : ev = 7 := by
            rcases hev with ⟨h, _⟩ | ⟨h, _⟩
            · exact h
            · exfalso; subst h; simp at h69
          have hkF : knownB cu wi d (i : Int) t sec q = false := by
            rcases hev with ⟨_, h⟩ | ⟨h, _⟩
            · exact h
            · exfalso; rw [hev7] at h; cases h
          rw [hzn] at hkF
          ((repeat refine JC.seq ?_); refine JC.region ?_)
          refine JL.build s90 rfl rfl ?_
          refine JL.pure rfl rfl ?_
          refine JL.storeB 9 H rfl rfl sh90 rfl rfl rfl rfl rfl ?_
          intro w10 H
          refine JL.pure rfl rfl ?_
          refine JL.nil ?_
          ((repeat refine Ex.normal_block ?_); refine Ex.next ?_)
          ((repeat refine JC.seq ?_); refine JC.ret ?_)
          (repeat (first | refine Ex.ret_then ?_ | refine Ex.ret_block ?_))
          refine Ex.ret2 rfl (.cell rfl sh90 (LdAt.of_block (H.get (i := 9) rfl).2 rfl)) (.tmp rfl) ?_
          have hst : stepR g cu wi d ⟨t, l, r, b, off⟩ sec = (zQP, 7) := by
            unfold stepR
            rw [if_neg (by simp only; omega), if_pos]
            rcases hsel with ⟨rfl, _⟩ | ⟨rfl, _⟩
            · rw [show knownB cu wi d 0 t sec l = false from hkF]; rfl
            · rw [show knownB cu wi d 1 t sec r = false from hkF]; simp
          rw [hst, hev7]
          exact PatR.zero ((((((((((((H.drop 0).drop 0).drop 0).drop 0).drop 0).drop 0).drop 0).drop 0).drop 0).drop 0).drop 0).drop 0) 7
        · intro h69
          (try simp only [Bool.not_eq_true', Bool.not_eq_false', decide_eq_true_eq, decide_eq_false_iff_not] at h69)
          have hev0 : knownB cu wi d (i : Int) t sec q = true ∧ GroupsOk g (pF cu wi d (i : Int) t sec) q (items.map Grp.pr) := by
            rcases hev with ⟨h, _⟩ | ⟨_, h⟩
            · exfalso; subst h; simp at h69
            · exact h
          obtain ⟨hkT, hG⟩ := hev0
          ((repeat refine JC.seq ?_); refine JC.skip ?_)
          ((repeat refine Ex.normal_block ?_); refine Ex.next ?_)
          ((repeat refine JC.seq ?_); refine JC.region ?_)
          refine JL.pure rfl rfl ?_
          refine JL.len rfl Try.underlying326 rfl ?_
          refine JL.pure rfl rfl ?_
          refine JL.nil ?_
          ((repeat refine Ex.normal_block ?_); refine Ex.next ?_)
          ((repeat refine JC.seq ?_); refine JC.block ?_)
          ((repeat refine JC.seq ?_); refine JC.loop (ι := Nat × Bool × List (Cell × Bool) × List (Cell × Bool)) (fun x => [(2, .int .i64 sec), (3, .pointer (some ⟨b3, 0, none⟩)), (4, .pointer (some ⟨b4, 0, none⟩)), (6, .pointer (some ⟨b6, 0, none⟩)), (8, .pointer (some ⟨b8, 0, none⟩)), (9, .pointer (some ⟨b9, 0, none⟩)), (10, .bool x.2.1), (11, .pointer (some ⟨b11, 0, none⟩)), (12, .int .i64 i), (53, .agg ⟨[.slice a1 l.length d1, .slice a2 r.length d2]⟩), (54, .int .i64 i), (72, .slice ga items.length gc), (73, .int .i64 items.length), (74, .int .i64 x.1)])
            (fun x wr => x.1 ≤ items.length ∧ GrowSt g items x.1 of0 x.2.1 mB x.2.2.1 x.2.2.2 ∧ Own w wr [trow 330 5 Grp.cs (.slice ga items.length gc) items, bag (items.map rowG), setM αs x.2.2.1, setM αo mo, setM βb x.2.2.2, setM βl mL, blk b11 (.cells ⟨[.map (some α0), .map (some α1)]⟩ 325 (0, 0)), blk b8 (.cells ⟨[.map (some βl)]⟩ 290 (0, 0)), blk b9 (.cells ⟨[.map (some βb)]⟩ 290 (0, 0)), blk b6 (.cells ⟨[.int .i64 0, .slice none 0 0, .slice none 0 0, .slice none 0 0, .bool false]⟩ 90 (0, 0)), blk b4 (.cells ⟨[.int .i64 t, .slice a1 l.length d1, .slice a2 r.length d2, .slice a3 b.length d3, .bool off]⟩ 90 (0, 0)), blk b3 (.cells ⟨[.int .i64 g.W, .int .i64 g.H, .int .i64 g.S, .slice la g.land.length lc, .slice ca cu.length cc, .slice wa wi.length wc, .int .i64 d.dl, .int .i64 d.dh, .int .i64 d.cl, .int .i64 d.ch, .bool d.jibes]⟩ 220 (0, 0))]) (fun x => items.length - x.1) (0, of0, [], mB) ?_ ?_ ?_)
          · exact ⟨rfl, rfl, rfl, rfl, rfl, rfl, rfl, rfl, rfl, rfl, rfl, rfl, rfl, rfl, trivial⟩
          · exact ⟨Nat.zero_le _, GrowSt.start hS.tB, H⟩
          · rintro ⟨k, of1, ms, mB1⟩ wr ⟨hk, hGS, H⟩
            simp only at hk hGS H
            show JC _ _ _ _ [(2, .int .i64 sec), (3, .pointer (some ⟨b3, 0, none⟩)), (4, .pointer (some ⟨b4, 0, none⟩)), (6, .pointer (some ⟨b6, 0, none⟩)), (8, .pointer (some ⟨b8, 0, none⟩)), (9, .pointer (some ⟨b9, 0, none⟩)), (10, .bool of1), (11, .pointer (some ⟨b11, 0, none⟩)), (12, .int .i64 i), (53, .agg ⟨[.slice a1 l.length d1, .slice a2 r.length d2]⟩), (54, .int .i64 i), (72, .slice ga items.length gc), (73, .int .i64 items.length), (74, .int .i64 k)] _
            ((repeat refine JC.seq ?_); refine JC.region ?_)
            refine JL.pure rfl rfl ?_
            refine JL.nil ?_
            ((repeat refine Ex.normal_block ?_); refine Ex.next ?_)
            ((repeat refine JC.seq ?_); refine JC.cond rfl ?_ ?_)
            · intro h75
              (try simp only [Bool.not_eq_true', Bool.not_eq_false', decide_eq_true_eq, decide_eq_false_iff_not] at h75)
              have h75 : k < items.length := by omega
              obtain ⟨⟨xp, xv, xr⟩, hxe⟩ : ∃ x, items[k] = x := ⟨_, rfl⟩
              have hx : items[k]? = some ⟨xp, xv, xr⟩ := by rw [List.getElem?_eq_getElem h75, hxe]
              obtain ⟨xva, xvc, hxv⟩ := (H.unpackAt (i := 1) rfl).row_slice (j := k) (e := 140) (sz := 3) (v := xv) (n := xr.length) (xs := xr.flatMap Run.cs) (by rw [List.getElem?_append_left (by rw [List.length_map]; omega), List.getElem?_map, hx]; rfl)
              subst hxv
              obtain ⟨g2, c2, hg2, _, _, _⟩ := H.rowAt (j := 0) (e := 330) (sz := 5) (enc := Grp.cs) (fun _ => rfl) rfl hx
              simp only [Value.slice.injEq] at hg2
              obtain ⟨rfl, _, rfl⟩ := hg2
              have hxm : (⟨xp, .slice xva xr.length xvc, xr⟩ : Grp).pr ∈ items.map Grp.pr := List.mem_map.2 ⟨_, List.mem_of_getElem? hx, rfl⟩
              have hxl : xr.length ≤ 8192 := (right_iff.1 (hG.right _ hxm)).2
              have hpk : ∀ c, hasB q c = true → (pF cu wi d (i : Int) t sec c).ok = true := fun c hcq => hpok c hcq hkT
              have hg0 : (growR g xr xp).2.2 = 0 := aflB_or hG hgok hsm id hpk hxm
              have hg1 : (growR g xr (stillP xp)).2.2 = 0 := aflB_or hG hgok hsm stillP (fun c hcq => still_ok (hpk c hcq)) hxm
              ((repeat refine JC.seq ?_); refine JC.skip ?_)
              ((repeat refine Ex.normal_block ?_); refine Ex.next ?_)
              ((repeat refine JC.seq ?_); refine JC.block ?_)
              ((repeat refine JC.seq ?_); refine JC.region ?_)
              refine JL.indexS k rfl rfl Try.underlying326 sh330 rfl h75 rfl ?_
              refine JL.load rfl sh330 (H.rowLd (j := 0) (e := 330) (sz := 5) (enc := Grp.cs) (fun _ => rfl) rfl hx) rfl ?_
              refine JL.alloc H z330 rfl ?_
              intro b17 w11 H
              refine JL.storeB 0 H rfl rfl sh330 rfl rfl rfl rfl rfl ?_
              intro w12 H
              refine JL.nil ?_
              ((repeat refine Ex.normal_block ?_); refine Ex.next ?_)
              ((repeat refine JC.seq ?_); refine JC.drawS H mixed ?_)
              intro w13 H
              refine DR.any 0 7 H (by kernel_rfl) ?_
              refine JD.loadB 12 rfl sh220 rfl rfl rfl ?_
              refine JD.pure rfl rfl ?_
              refine JD.indexA i rfl rfl Try.underlying325 sh290 rfl h55 rfl ?_
              refine JD.load rfl sh290 (fun w hw => LdAt.one (hw.get (i := 7) rfl).2 (by rw [show 0 + i * 1 = i by omega]; exact hαs)) rfl ?_
              refine JD.loadB 0 rfl sh330 rfl rfl rfl ?_
              refine JD.fieldAddr rfl Try.underlying330 rfl sh54 rfl ?_
              refine JD.loadB 0 rfl sh54 rfl rfl rfl ?_
              refine JD.nil ?_
              intro w14 H
              show DR _ _ _ _ _ _ _
              refine DR.op rfl (by kernel_rfl) ?_
              have H := H.front 3 rfl
              refine JL.call fb236 rfl rfl (seaGrow_c g _ _ _ (.slice xva xr.length xvc) cu wi d xr xp xp _ H (fun w' m' h => hl.grow h.below) (fun w' m' h => runSl (h.unpackAt (i := 3) rfl) (j := k) (by rw [List.getElem?_append_left (by rw [List.length_map]; omega), List.getElem?_map, hx]; rfl) (by omega)) ⟨_, _, _, rfl⟩ ⟨_, _, _, rfl⟩ hg0) ?_
              rintro _ w15 ⟨rfl, ms2, H, hms2, _, hts2⟩
              refine ⟨_, rfl, ?_⟩
              refine DR.next ?_
              refine DR.any 8 9 H (by kernel_rfl) ?_
              refine JD.pure rfl rfl ?_
              refine JD.nil ?_
              intro w16 H
              show DR _ _ _ _ _ _ _
              refine DR.done rfl ?_
              ((repeat refine Ex.normal_block ?_); refine Ex.next ?_)
              ((repeat refine JC.seq ?_); refine JC.drawS H mixed ?_)
              intro w17 H
              refine DR.any 0 6 H (by kernel_rfl) ?_
              refine JD.loadB 12 rfl sh220 rfl rfl rfl ?_
              refine JD.loadB 9 rfl sh290 rfl rfl rfl ?_
              refine JD.loadB 1 rfl sh330 rfl rfl rfl ?_
              refine JD.fieldAddr rfl Try.underlying330 rfl sh54 rfl ?_
              refine JD.loadB 1 rfl sh54 rfl rfl rfl ?_
              refine JD.call fb230 rfl rfl (fun w hw => stillD_c xp w) ?_
              refine JD.nil ?_
              intro w18 H
              show DR _ _ _ _ _ _ _
              refine DR.op rfl (by kernel_rfl) ?_
              have H := H.front 5 rfl
              refine JL.call fb236 rfl rfl (seaGrow_c g _ _ _ (.slice xva xr.length xvc) cu wi d xr xp (stillP xp) _ H (fun w' m' h => hl.grow h.below) (fun w' m' h => runSl (h.unpackAt (i := 4) rfl) (j := k) (by rw [List.getElem?_append_left (by rw [List.length_map]; omega), List.getElem?_map, hx]; rfl) (by omega)) ⟨_, _, _, rfl⟩ ⟨_, _, _, rfl⟩ hg1) ?_
              rintro _ w19 ⟨rfl, mB2, H, hmB2, _, htB2⟩
              refine ⟨_, rfl, ?_⟩
              refine DR.next ?_
              refine DR.any 7 8 H (by kernel_rfl) ?_
              refine JD.pure rfl rfl ?_
              refine JD.nil ?_
              intro w20 H
              show DR _ _ _ _ _ _ _
              refine DR.done rfl ?_
              ((repeat refine Ex.normal_block ?_); refine Ex.next ?_)
              ((repeat refine JC.seq ?_); refine JC.regionTo ([(2, .int .i64 sec), (3, .pointer (some ⟨b3, 0, none⟩)), (4, .pointer (some ⟨b4, 0, none⟩)), (6, .pointer (some ⟨b6, 0, none⟩)), (8, .pointer (some ⟨b8, 0, none⟩)), (9, .pointer (some ⟨b9, 0, none⟩)), (10, .bool ((of1 || (growR g xr xp).2.1) || (growR g xr (stillP xp)).2.1)), (11, .pointer (some ⟨b11, 0, none⟩)), (12, .int .i64 i), (53, .agg ⟨[.slice a1 l.length d1, .slice a2 r.length d2]⟩), (54, .int .i64 i), (72, .slice (some ⟨g2, 0, none⟩) items.length gc), (73, .int .i64 items.length), (74, .int .i64 k)]) (fun wr => Own w wr [setM βb mB2, setM αs ms2, blk b17 (.cells ⟨Grp.cs ⟨xp, .slice xva xr.length xvc, xr⟩⟩ 330 (0, 0)), trow 330 5 Grp.cs (.slice (some ⟨g2, 0, none⟩) items.length gc) items, bag (items.map rowG), setM αo mo, setM βl mL, blk b11 (.cells ⟨[.map (some α0), .map (some α1)]⟩ 325 (0, 0)), blk b8 (.cells ⟨[.map (some βl)]⟩ 290 (0, 0)), blk b9 (.cells ⟨[.map (some βb)]⟩ 290 (0, 0)), blk b6 (.cells ⟨[.int .i64 0, .slice none 0 0, .slice none 0 0, .slice none 0 0, .bool false]⟩ 90 (0, 0)), blk b4 (.cells ⟨[.int .i64 t, .slice a1 l.length d1, .slice a2 r.length d2, .slice a3 b.length d3, .bool off]⟩ 90 (0, 0)), blk b3 (.cells ⟨[.int .i64 g.W, .int .i64 g.H, .int .i64 g.S, .slice la g.land.length lc, .slice ca cu.length cc, .slice wa wi.length wc, .int .i64 d.dl, .int .i64 d.dh, .int .i64 d.cl, .int .i64 d.ch, .bool d.jibes]⟩ 220 (0, 0))]) ?_ ?_)
              ·
                refine JL.pure rfl rfl ?_
                refine JL.pure rfl rfl ?_
                refine JL.cases 94 rfl ?_ ?_
                · intro h94
                  (try simp only [Bool.not_eq_true', Bool.not_eq_false', decide_eq_true_eq, decide_eq_false_iff_not] at h94)
                  refine JL.pass rfl rfl rfl rfl ?_
                  refine JL.pure rfl rfl ?_
                  refine JL.pure rfl rfl ?_
                  refine JL.pass rfl rfl rfl rfl ?_
                  refine JL.pure rfl rfl ?_
                  refine JL.pure rfl rfl ?_
                  refine JL.nil ?_
                  refine Ex.to ⟨rfl, rfl, rfl, rfl, rfl, rfl, ?_, rfl, rfl, rfl, rfl, rfl, rfl, rfl, trivial⟩ H
                  show some (Value.bool _) = some (Value.bool _)
                  simp_all
                · intro h94
                  (try simp only [Bool.not_eq_true', Bool.not_eq_false', decide_eq_true_eq, decide_eq_false_iff_not] at h94)
                  refine JL.want rfl rfl ?_
                  refine JL.pure rfl rfl ?_
                  refine JL.pure rfl rfl ?_
                  refine JL.pure rfl rfl ?_
                  refine JL.cases 97 rfl ?_ ?_
                  · intro h97
                    (try simp only [Bool.not_eq_true', Bool.not_eq_false', decide_eq_true_eq, decide_eq_false_iff_not] at h97)
                    refine JL.pass rfl rfl rfl rfl ?_
                    refine JL.pure rfl rfl ?_
                    refine JL.pure rfl rfl ?_
                    refine JL.nil ?_
                    refine Ex.to ⟨rfl, rfl, rfl, rfl, rfl, rfl, ?_, rfl, rfl, rfl, rfl, rfl, rfl, rfl, trivial⟩ H
                    show some (Value.bool _) = some (Value.bool _)
                    simp_all
                  · intro h97
                    (try simp only [Bool.not_eq_true', Bool.not_eq_false', decide_eq_true_eq, decide_eq_false_iff_not] at h97)
                    refine JL.want rfl rfl ?_
                    refine JL.pure rfl rfl ?_
                    refine JL.pure rfl rfl ?_
                    refine JL.pure rfl rfl ?_
                    refine JL.nil ?_
                    refine Ex.to ⟨rfl, rfl, rfl, rfl, rfl, rfl, ?_, rfl, rfl, rfl, rfl, rfl, rfl, rfl, trivial⟩ H
                    show some (Value.bool _) = some (Value.bool _)
                    simp_all
              · intro wc H
                ((repeat refine Ex.normal_block ?_); refine Ex.next ?_)
                ((repeat refine JC.seq ?_); refine JC.region ?_)
                refine JL.arith rfl (by unfold In64; omega) rfl ?_
                refine JL.pure rfl rfl ?_
                refine JL.nil ?_
                (repeat refine Ex.normal_block ?_)
                have hGS2 := hGS.next h75 hts2 htB2 (fun c => by rw [hms2 c, hxe]) (fun c => by rw [hmB2 c, hxe])
                rw [hxe] at hGS2
                refine Ex.again (k + 1, _, ms2, mB2) ⟨rfl, rfl, rfl, rfl, rfl, rfl, rfl, rfl, rfl, rfl, rfl, rfl, rfl, rfl, trivial⟩ ⟨h75, hGS2, ((((H.drop 2).front 4 rfl).front 2 rfl).front 4 rfl).front 4 rfl⟩ (by simp only; omega)
            · intro h75
              (try simp only [Bool.not_eq_true', Bool.not_eq_false', decide_eq_true_eq, decide_eq_false_iff_not] at h75)
              have hkk : k = items.length := by omega
              subst hkk
              obtain ⟨hD1, hD2, hD3⟩ := hGS.done hgok hsm hG (fun c hcq => hpok c hcq hkT)
              rw [hzn] at hD1 hD2 hD3 hkT
              ((repeat refine JC.seq ?_); refine JC.exit ?_)
              (repeat (first | refine Ex.exit_then ?_ | refine Ex.exit_miss (by decide) ?_))
              refine Ex.exit_hit ?_
              ((repeat refine Ex.normal_block ?_); refine Ex.next ?_)
              ((repeat refine JC.seq ?_); refine JC.region ?_)
              refine JL.arith rfl (by unfold In64; omega) rfl ?_
              refine JL.pure rfl rfl ?_
              refine JL.nil ?_
              (repeat refine Ex.normal_block ?_)
              have H := (H.drop 0).drop 0
              rcases hsel with ⟨hi0, e1, e2, e3⟩ | ⟨hi0, e1, e2, e3⟩
              · rw [e1, e2, e3] at H
                subst hi0
                exact Ex.again (0 + 1, of1, ms, m1, mB1) ⟨rfl, rfl, rfl, rfl, rfl, rfl, rfl, rfl, rfl, rfl, trivial⟩ ⟨by simp only; omega, ⟨hS.next0 hGS.ts hGS.tB hD1 hD2 hD3, fun _ => hkT, fun h => absurd h (by simp only; omega)⟩, H⟩ (by simp only; omega)
              · rw [e1, e2, e3] at H
                subst hi0
                exact Ex.again (1 + 1, of1, m0, ms, mB1) ⟨rfl, rfl, rfl, rfl, rfl, rfl, rfl, rfl, rfl, rfl, trivial⟩ ⟨by simp only; omega, ⟨hS.next1 hGS.ts hGS.tB hD1 hD2 hD3, fun _ => hk0 (by omega), fun _ => hkT⟩, H.front 1 rfl⟩ (by simp only; omega)
      · intro h55
        (try simp only [Bool.not_eq_true', Bool.not_eq_false', decide_eq_true_eq, decide_eq_false_iff_not] at h55)
        have hi2 : i = 2 := by omega
        subst hi2
        have hkk0 := hk0 (by omega)
        have hkk1 := hk1 (by omega)
        ((repeat refine JC.seq ?_); refine JC.exit ?_)
        (repeat (first | refine Ex.exit_then ?_ | refine Ex.exit_miss (by decide) ?_))
        refine Ex.exit_hit ?_
        ((repeat refine Ex.normal_block ?_); refine Ex.next ?_)
        ((repeat refine JC.seq ?_); refine JC.region ?_)
        refine JL.fieldAddr rfl Try.underlying220 rfl sh86 rfl ?_
        refine JL.fieldAddr rfl Try.underlying86 rfl sh4 rfl ?_
        refine JL.loadB 9 H rfl sh4 rfl rfl rfl ?_
        refine JL.nil ?_
        ((repeat refine Ex.normal_block ?_); refine Ex.next ?_)
        ((repeat refine JC.seq ?_); refine JC.cond rfl ?_ ?_)
        · intro h104
          (try simp only [Bool.not_eq_true', Bool.not_eq_false', decide_eq_true_eq, decide_eq_false_iff_not] at h104)
          have hj : d.jibes = true := h104
          ((repeat refine JC.seq ?_); refine JC.region ?_)
          refine JL.indexA 0 rfl rfl Try.underlying325 sh290 rfl (by decide) rfl ?_
          refine JL.loadB 4 H rfl sh290 rfl rfl rfl ?_
          obtain ⟨es, clock, hM, H⟩ := H.openM (i := 0) rfl
          refine JL.rangeM 0 H rfl rfl Try.underlying290 rfl ?_
          intro q9 w9 H
          refine JL.nil ?_
          ((repeat refine Ex.normal_block ?_); refine Ex.next ?_)
          ((repeat refine JC.seq ?_); refine JC.block ?_)
          ((repeat refine JC.seq ?_); refine JC.loop (ι := List (Cell × Bool) × Array Nat × Nat × List (Cell × Bool)) (fun x => [(2, .int .i64 sec), (3, .pointer (some ⟨b3, 0, none⟩)), (4, .pointer (some ⟨b4, 0, none⟩)), (6, .pointer (some ⟨b6, 0, none⟩)), (8, .pointer (some ⟨b8, 0, none⟩)), (9, .pointer (some ⟨b9, 0, none⟩)), (10, .bool of0), (11, .pointer (some ⟨b11, 0, none⟩)), (107, .pointer (some ⟨q9, 0, none⟩))])
            (fun x wr => ItIs Cell.ev Value.bool es x.2.1 x.1 ∧ clock ≤ x.2.2.1 ∧ (AllT x.2.2.2 ∧ ∀ c, (setR x.2.2.2 c = true ∨ ∃ b', (c, b') ∈ x.1) ↔ (setR m1 c = true ∨ setR m0 c = true)) ∧ Own w wr [blk q9 (.mapIter (some α0) clock x.2.1 x.2.2.1), blk α0 (.map es clock), setM α1 x.2.2.2, setM βb mB, setM βl mL, blk b11 (.cells ⟨[.map (some α0), .map (some α1)]⟩ 325 (0, 0)), blk b8 (.cells ⟨[.map (some βl)]⟩ 290 (0, 0)), blk b9 (.cells ⟨[.map (some βb)]⟩ 290 (0, 0)), blk b6 (.cells ⟨[.int .i64 0, .slice none 0 0, .slice none 0 0, .slice none 0 0, .bool false]⟩ 90 (0, 0)), blk b4 (.cells ⟨[.int .i64 t, .slice a1 l.length d1, .slice a2 r.length d2, .slice a3 b.length d3, .bool off]⟩ 90 (0, 0)), blk b3 (.cells ⟨[.int .i64 g.W, .int .i64 g.H, .int .i64 g.S, .slice la g.land.length lc, .slice ca cu.length cc, .slice wa wi.length wc, .int .i64 d.dl, .int .i64 d.dh, .int .i64 d.cl, .int .i64 d.ch, .bool d.jibes]⟩ 220 (0, 0))]) (fun x => x.1.length) (m0, #[], clock, m1) ?_ ?_ ?_)
          · exact ⟨rfl, rfl, rfl, rfl, rfl, rfl, rfl, rfl, rfl, trivial⟩
          · exact ⟨ItIs.start hM, Nat.le_refl _, ⟨hS.t1, fun c => by rw [setR_key hM.nodup hS.t0]⟩, H⟩
          · rintro ⟨rs9, seen, c0, m9⟩ wr ⟨hit, hc0, ⟨hat, hout⟩, H⟩
            simp only at hit hc0 hat hout H
            show JC _ _ _ _ [(2, .int .i64 sec), (3, .pointer (some ⟨b3, 0, none⟩)), (4, .pointer (some ⟨b4, 0, none⟩)), (6, .pointer (some ⟨b6, 0, none⟩)), (8, .pointer (some ⟨b8, 0, none⟩)), (9, .pointer (some ⟨b9, 0, none⟩)), (10, .bool of0), (11, .pointer (some ⟨b11, 0, none⟩)), (107, .pointer (some ⟨q9, 0, none⟩))] _
            ((repeat refine JC.seq ?_); refine JC.region ?_)
            refine JL.nextM 0 1 H rfl rfl rfl hM.old hc0 rfl ?_ ?_
            · intro h0
              have hl0 := hit.ended h0
              subst hl0
              refine JL.pure rfl rfl ?_
              refine JL.nil ?_
              ((repeat refine Ex.normal_block ?_); refine Ex.next ?_)
              ((repeat refine JC.seq ?_); refine JC.cond rfl (fun h => by cases h) (fun _ => ?_))
              ((repeat refine JC.seq ?_); refine JC.exit ?_)
              (repeat (first | refine Ex.exit_then ?_ | refine Ex.exit_miss (by decide) ?_))
              refine Ex.exit_hit ?_
              ((repeat refine Ex.normal_block ?_); refine Ex.next ?_)
              ((repeat refine JC.seq ?_); refine JC.region ?_)
              refine JL.indexA 1 rfl rfl Try.underlying325 sh290 rfl (by decide) rfl ?_
              refine JL.loadB 5 H rfl sh290 rfl rfl rfl ?_
              refine JL.indexA 0 rfl rfl Try.underlying325 sh290 rfl (by decide) rfl ?_
              refine JL.storeB 5 H rfl rfl sh290 rfl rfl rfl rfl rfl ?_
              intro w21 H
              refine JL.nil ?_
              ((repeat refine Ex.normal_block ?_); refine Ex.next ?_)
              ((repeat refine JC.seq ?_); refine JC.region ?_)
              refine JL.pure rfl rfl ?_
              have gB := H.get (i := 7) rfl
              have gS := H.get (i := 10) rfl
              have gL := H.get (i := 6) rfl
              have gA := H.get (i := 5) rfl
              have lB := lt_of_block gB.2
              have lS := lt_of_block gS.2
              have lL := lt_of_block gL.2
              have lA := lt_of_block gA.2
              have kB := H.mapAt (i := 3) rfl
              have kL := H.mapAt (i := 4) rfl
              have k0 := H.mapAt (i := 2) rfl
              have k1 := H.mapAt (i := 2) rfl
              have iB : ∀ c, setR mB c = true → inG g c := fun c hcm => by
                rcases (hS.hB c).1 hcm with h | ⟨_, h, _⟩ | ⟨_, h, _⟩
                · exact canon_inG hcan3 h
                · exact h
                · exact h
              have i0 : ∀ c, setR m0 c = true → inG g c := fun c hcm => ((hS.h0 c).1 hcm).2.1
              have i1 : ∀ c, setR m1 c = true → inG g c := fun c hcm => ((hS.h1 c).1 hcm).2.1
              have i9 : ∀ c, setR m9 c = true → inG g c := fun c hcm => ((hout c).1 (.inl hcm)).elim (i1 c) (i0 c)
              have hn0 : ∀ c, setR m9 c = true ↔ setR m0 c = true ∨ d.jibes = true ∧ setR m1 c = true := fun c => by
                have h9 := hout c
                simp only [List.not_mem_nil, exists_false, or_false] at h9
                rw [h9, hj, or_comm]; simp
              have hn1 : ∀ c, setR m9 c = true ↔ setR m1 c = true ∨ d.jibes = true ∧ setR m0 c = true := fun c => by
                have h9 := hout c
                simp only [List.not_mem_nil, exists_false, or_false] at h9
                rw [h9, hj]; simp
              have hfe : firstErr (fun i => runsR g (fun c => setR (nth3 m9 m9 mB i) c && (setR mL c == decide (i = 2)))) = 0 := firstErr_zero (runsR_small hgok hsm _).1 (runsR_small hgok hsm _).1 (runsR_small hgok hsm _).1
              have hcall := each_c 237 [.pointer (some ⟨b9, 0, none⟩), .pointer (some ⟨b3, 0, none⟩), .pointer (some ⟨b8, 0, none⟩), .pointer (some ⟨b11, 0, none⟩)] (fun i => runsR g (fun c => setR (nth3 m9 m9 mB i) c && (setR mL c == decide (i = 2)))) _ fb237
                (fun w' hb' i hi3 => step1_c g (.slice la g.land.length lc) b9 b3 b8 b11 βb βl α1 α1 mB mL m9 m9 i w' hi3 (hl.grow (H.below.trans (hb'.mono H.below.size))) hgok ((LdAt.of_block gB.2 rfl).grow lB hb') ((LdAt.of_block gS.2 rfl).grow lS hb') ((LdAt.of_block gL.2 rfl).grow lL hb')
                  (fun j hj2 => LdAt.grow (by
                    rcases (show j = 0 ∨ j = 1 by omega) with rfl | rfl
                    · exact LdAt.of_block gA.2 rfl
                    · exact LdAt.of_block gA.2 rfl) lA hb')
                  (Nat.lt_of_lt_of_le lB hb'.size) (Nat.lt_of_lt_of_le lS hb'.size) (Nat.lt_of_lt_of_le lL hb'.size) (Nat.lt_of_lt_of_le lA hb'.size) (kB.grow hb') (kL.grow hb') (k0.grow hb') (k1.grow hb') hS.tB hat hat iB i9 i9)
              rw [hfe] at hcall
              refine JL.call fb231 rfl rfl hcall ?_
              rintro _ w22 ⟨arr, rfl, hE, _⟩
              obtain ⟨hal, K⟩ := hE rfl
              obtain ⟨y0, y1, y2, rfl⟩ := len3 hal
              have K := K.unpackAt (i := 0) rfl
              obtain ⟨u0, zz0, rfl⟩ := K.row_slice (j := 0) rfl
              obtain ⟨u1, zz1, rfl⟩ := K.row_slice (j := 1) rfl
              obtain ⟨u2, zz2, rfl⟩ := K.row_slice (j := 2) rfl
              have H := H.join K
              refine ⟨_, rfl, ?_⟩
              refine JL.pure rfl rfl ?_
              refine JL.pure rfl rfl ?_
              refine JL.pure rfl rfl ?_
              refine JL.alloc H z292 rfl ?_
              intro b21 w23 H
              refine JL.storeB 0 H rfl rfl sh292 rfl rfl rfl rfl rfl ?_
              intro w24 H
              refine JL.pure rfl rfl ?_
              refine JL.nil ?_
              ((repeat refine Ex.normal_block ?_); refine Ex.next ?_)
              ((repeat refine JC.seq ?_); refine JC.region ?_)
              refine JL.pure rfl rfl ?_
              refine JL.pure rfl rfl ?_
              refine JL.re 124 rfl (v' := .bool false) rfl ?_
              refine JL.nil ?_
              ((repeat refine Ex.normal_block ?_); refine Ex.next ?_)
              ((repeat refine JC.seq ?_); refine JC.cond rfl (fun h => by cases h) (fun _ => ?_))
              ((repeat refine JC.seq ?_); refine JC.skip ?_)
              ((repeat refine Ex.normal_block ?_); refine Ex.next ?_)
              ((repeat refine JC.seq ?_); refine JC.region ?_)
              refine JL.loadB 0 H rfl sh292 rfl rfl rfl ?_
              refine JL.fieldAddr rfl Try.underlying90 rfl sh3 rfl ?_
              refine JL.loadB 13 H rfl sh3 rfl rfl rfl ?_
              refine JL.pure rfl rfl ?_
              refine JL.arith rfl (by unfold In64; omega) rfl ?_
              refine JL.pure rfl rfl ?_
              refine JL.callP H fb234 rfl rfl (patchD_c _ u0 u1 u2 _ _ _ zz0 zz1 zz2 _ _) ?_
              intro w25 H _
              refine JL.storeB 12 H rfl rfl sh90 rfl rfl rfl rfl rfl ?_
              intro w26 H
              refine JL.pure rfl rfl ?_
              refine JL.nil ?_
              ((repeat refine Ex.normal_block ?_); refine Ex.next ?_)
              ((repeat refine JC.seq ?_); refine JC.ret ?_)
              (repeat (first | refine Ex.ret_then ?_ | refine Ex.ret_block ?_))
              refine Ex.ret2 rfl (.cell rfl sh90 (LdAt.of_block (H.get (i := 12) rfl).2 rfl)) (.tmp rfl) ?_
              have hst : stepR g cu wi d ⟨t, l, r, b, off⟩ sec = (stepQ g cu wi d ⟨t, l, r, b, off⟩ sec, 0) := by
                unfold stepR
                rw [if_neg (by simp only; omega), if_neg]
                simp only
                rw [hkk0, hkk1]
                simp
              rw [hst, step_fin hgok hS (fun c hcb => canon_inG hcan3 hcb) (fun c => Bool.eq_iff_iff.2 ((hmL c).trans (by rw [setR_nil, mem_cellsAll]; simp))) (n0 := m9) (n1 := m9) hn0 hn1]
              exact ⟨_, _, _, rfl, ((((((((((((H.drop 0).drop 3).drop 3).drop 3).drop 3).drop 3).drop 3).drop 3).drop 3).drop 3).drop 3).drop 3)⟩
            · intro e9 w9 he H
              obtain ⟨hes, aa, ⟨c9, kk⟩, bb, rfl, hke, hve, hit2⟩ := hit.step hM he
              simp only at hke hve
              rw [hke, hve]
              refine JL.pure rfl rfl ?_
              refine JL.nil ?_
              ((repeat refine Ex.normal_block ?_); refine Ex.next ?_)
              ((repeat refine JC.seq ?_); refine JC.cond rfl (fun _ => ?_) (fun h => by cases h))
              ((repeat refine JC.seq ?_); refine JC.skip ?_)
              ((repeat refine Ex.normal_block ?_); refine Ex.next ?_)
              ((repeat refine JC.seq ?_); refine JC.block ?_)
              ((repeat refine JC.seq ?_); refine JC.region ?_)
              refine JL.entryM 0 1 H rfl rfl rfl hes hM.born rfl ?_
              rw [hke, hve]
              refine JL.pure rfl rfl ?_
              refine JL.alloc H z62 rfl ?_
              intro b20 w27 H
              refine JL.storeB 0 H rfl rfl sh62 rfl rfl rfl rfl rfl ?_
              intro w28 H
              refine JL.nil ?_
              ((repeat refine Ex.normal_block ?_); refine Ex.next ?_)
              ((repeat refine JC.seq ?_); refine JC.region ?_)
              refine JL.indexA 1 rfl rfl Try.underlying325 sh290 rfl (by decide) rfl ?_
              refine JL.loadB 6 H rfl sh290 rfl rfl rfl ?_
              refine JL.loadB 0 H rfl sh62 rfl rfl rfl ?_
              refine JL.mapUpdate 3 H c9 true rfl rfl rfl Try.underlying290 keyCell rfl rfl ?_
              intro w9 H
              refine JL.nil ?_
              (repeat refine Ex.normal_block ?_)
              refine Ex.again (aa ++ bb, seen.push e9.born, clock, mset m9 c9 true) ⟨rfl, rfl, rfl, rfl, rfl, rfl, rfl, rfl, rfl, trivial⟩ ⟨hit2, Nat.le_refl _, ⟨hat.mset _, fun x => ?_⟩, H.drop 0⟩ (by simp only [List.length_append, List.length_cons]; omega)
              simp only
              have e1 : (∃ b', (x, b') ∈ aa ++ (c9, kk) :: bb) ↔ x = c9 ∨ ∃ b', (x, b') ∈ aa ++ bb := by
                constructor
                · rintro ⟨b', hb'⟩
                  rcases List.mem_append.1 hb' with h | h
                  · exact .inr ⟨b', List.mem_append_left _ h⟩
                  · rcases List.mem_cons.1 h with h | h
                    · cases h; exact .inl rfl
                    · exact .inr ⟨b', List.mem_append_right _ h⟩
                · rintro (rfl | ⟨b', h⟩)
                  · exact ⟨kk, by simp⟩
                  · refine ⟨b', ?_⟩
                    rcases List.mem_append.1 h with h | h
                    · exact List.mem_append_left _ h
                    · exact List.mem_append_right _ (List.mem_cons_of_mem _ h)
              rw [← hout x, e1, setR_mset, or_assoc]
        · intro h104
          (try simp only [Bool.not_eq_true', Bool.not_eq_false', decide_eq_true_eq, decide_eq_false_iff_not] at h104)
          have hj : d.jibes = false := h104
          ((repeat refine JC.seq ?_); refine JC.skip ?_)
          ((repeat refine Ex.normal_block ?_); refine Ex.next ?_)
          ((repeat refine JC.seq ?_); refine JC.region ?_)
          refine JL.pure rfl rfl ?_
          have gB := H.get (i := 6) rfl
          have gS := H.get (i := 9) rfl
          have gL := H.get (i := 5) rfl
          have gA := H.get (i := 4) rfl
          have lB := lt_of_block gB.2
          have lS := lt_of_block gS.2
          have lL := lt_of_block gL.2
          have lA := lt_of_block gA.2
          have kB := H.mapAt (i := 2) rfl
          have kL := H.mapAt (i := 3) rfl
          have k0 := H.mapAt (i := 0) rfl
          have k1 := H.mapAt (i := 1) rfl
          have iB : ∀ c, setR mB c = true → inG g c := fun c hcm => by
            rcases (hS.hB c).1 hcm with h | ⟨_, h, _⟩ | ⟨_, h, _⟩
            · exact canon_inG hcan3 h
            · exact h
            · exact h
          have i0 : ∀ c, setR m0 c = true → inG g c := fun c hcm => ((hS.h0 c).1 hcm).2.1
          have i1 : ∀ c, setR m1 c = true → inG g c := fun c hcm => ((hS.h1 c).1 hcm).2.1
          have hn0 : ∀ c, setR m0 c = true ↔ setR m0 c = true ∨ d.jibes = true ∧ setR m1 c = true := fun c => by simp [hj]
          have hn1 : ∀ c, setR m1 c = true ↔ setR m1 c = true ∨ d.jibes = true ∧ setR m0 c = true := fun c => by simp [hj]
          have hfe : firstErr (fun i => runsR g (fun c => setR (nth3 m0 m1 mB i) c && (setR mL c == decide (i = 2)))) = 0 := firstErr_zero (runsR_small hgok hsm _).1 (runsR_small hgok hsm _).1 (runsR_small hgok hsm _).1
          have hcall := each_c 237 [.pointer (some ⟨b9, 0, none⟩), .pointer (some ⟨b3, 0, none⟩), .pointer (some ⟨b8, 0, none⟩), .pointer (some ⟨b11, 0, none⟩)] (fun i => runsR g (fun c => setR (nth3 m0 m1 mB i) c && (setR mL c == decide (i = 2)))) _ fb237
            (fun w' hb' i hi3 => step1_c g (.slice la g.land.length lc) b9 b3 b8 b11 βb βl α0 α1 mB mL m0 m1 i w' hi3 (hl.grow (H.below.trans (hb'.mono H.below.size))) hgok ((LdAt.of_block gB.2 rfl).grow lB hb') ((LdAt.of_block gS.2 rfl).grow lS hb') ((LdAt.of_block gL.2 rfl).grow lL hb')
              (fun j hj2 => LdAt.grow (by
                rcases (show j = 0 ∨ j = 1 by omega) with rfl | rfl
                · exact LdAt.of_block gA.2 rfl
                · exact LdAt.of_block gA.2 rfl) lA hb')
              (Nat.lt_of_lt_of_le lB hb'.size) (Nat.lt_of_lt_of_le lS hb'.size) (Nat.lt_of_lt_of_le lL hb'.size) (Nat.lt_of_lt_of_le lA hb'.size) (kB.grow hb') (kL.grow hb') (k0.grow hb') (k1.grow hb') hS.tB hS.t0 hS.t1 iB i0 i1)
          rw [hfe] at hcall
          refine JL.call fb231 rfl rfl hcall ?_
          rintro _ w29 ⟨arr, rfl, hE, _⟩
          obtain ⟨hal, K⟩ := hE rfl
          obtain ⟨y0, y1, y2, rfl⟩ := len3 hal
          have K := K.unpackAt (i := 0) rfl
          obtain ⟨u0, zz0, rfl⟩ := K.row_slice (j := 0) rfl
          obtain ⟨u1, zz1, rfl⟩ := K.row_slice (j := 1) rfl
          obtain ⟨u2, zz2, rfl⟩ := K.row_slice (j := 2) rfl
          have H := H.join K
          refine ⟨_, rfl, ?_⟩
          refine JL.pure rfl rfl ?_
          refine JL.pure rfl rfl ?_
          refine JL.pure rfl rfl ?_
          refine JL.alloc H z292 rfl ?_
          intro b21_30 w30 H
          refine JL.storeB 0 H rfl rfl sh292 rfl rfl rfl rfl rfl ?_
          intro w31 H
          refine JL.pure rfl rfl ?_
          refine JL.nil ?_
          ((repeat refine Ex.normal_block ?_); refine Ex.next ?_)
          ((repeat refine JC.seq ?_); refine JC.region ?_)
          refine JL.pure rfl rfl ?_
          refine JL.pure rfl rfl ?_
          refine JL.re 124 rfl (v' := .bool false) rfl ?_
          refine JL.nil ?_
          ((repeat refine Ex.normal_block ?_); refine Ex.next ?_)
          ((repeat refine JC.seq ?_); refine JC.cond rfl (fun h => by cases h) (fun _ => ?_))
          ((repeat refine JC.seq ?_); refine JC.skip ?_)
          ((repeat refine Ex.normal_block ?_); refine Ex.next ?_)
          ((repeat refine JC.seq ?_); refine JC.region ?_)
          refine JL.loadB 0 H rfl sh292 rfl rfl rfl ?_
          refine JL.fieldAddr rfl Try.underlying90 rfl sh3 rfl ?_
          refine JL.loadB 12 H rfl sh3 rfl rfl rfl ?_
          refine JL.pure rfl rfl ?_
          refine JL.arith rfl (by unfold In64; omega) rfl ?_
          refine JL.pure rfl rfl ?_
          refine JL.callP H fb234 rfl rfl (patchD_c _ u0 u1 u2 _ _ _ zz0 zz1 zz2 _ _) ?_
          intro w32 H _
          refine JL.storeB 11 H rfl rfl sh90 rfl rfl rfl rfl rfl ?_
          intro w33 H
          refine JL.pure rfl rfl ?_
          refine JL.nil ?_
          ((repeat refine Ex.normal_block ?_); refine Ex.next ?_)
          ((repeat refine JC.seq ?_); refine JC.ret ?_)
          (repeat (first | refine Ex.ret_then ?_ | refine Ex.ret_block ?_))
          refine Ex.ret2 rfl (.cell rfl sh90 (LdAt.of_block (H.get (i := 11) rfl).2 rfl)) (.tmp rfl) ?_
          have hst : stepR g cu wi d ⟨t, l, r, b, off⟩ sec = (stepQ g cu wi d ⟨t, l, r, b, off⟩ sec, 0) := by
            unfold stepR
            rw [if_neg (by simp only; omega), if_neg]
            simp only
            rw [hkk0, hkk1]
            simp
          rw [hst, step_fin hgok hS (fun c hcb => canon_inG hcan3 hcb) (fun c => Bool.eq_iff_iff.2 ((hmL c).trans (by rw [setR_nil, mem_cellsAll]; simp))) (n0 := m0) (n1 := m1) hn0 hn1]
          exact ⟨_, _, _, rfl, (((((((((((H.drop 0).drop 3).drop 3).drop 3).drop 3).drop 3).drop 3).drop 3).drop 3).drop 3).drop 3)⟩
end Go.J

namespace Go.J
open Go.RowKit Go.Proofs
set_option maxRecDepth 8000
set_option linter.unusedSimpArgs false
set_option linter.unusedVariables false
/-! drift: Step, Push -/
theorem step64_c (g : Grid) (lv cv wv : Value) (cu wi : List Flow) (d : Drifter) (t : Int) (lf rf bf : Value) (l r b : List Run) (off : Bool) (sec : Int) (w : World) (hl : SlR w lv g.land) (hcl : capOK lv) (hc : FlowsIs w cv cu) (hw : FlowsIs w wv wi) (h1 : SlR w lf l) (h2 : SlR w rf r) (h3 : SlR w bf b) (c1 : capOK lf) (c2 : capOK rf) (c3 : capOK bf)
    (hsm : g.ok = true → g.W * g.H ≤ 4096) : Calls Try.prog 64 #[g.ev lv, .agg ⟨[cv, wv]⟩, d.ev, Patch.ev ⟨t, lf, l, rf, r, bf, b, off⟩, .int .i64 sec] w (fun e w' => PatR w w' [] (stepAllR g cu wi d ⟨t, l, r, b, off⟩ sec) e) := by
  obtain ⟨la, lc, rfl⟩ := hl.len
  obtain ⟨ca, cc, rfl⟩ := hc.1.len
  obtain ⟨wa, wc, rfl⟩ := hw.1.len
  obtain ⟨a1, d1, rfl⟩ := h1.len
  obtain ⟨a2, d2, rfl⟩ := h2.len
  obtain ⟨a3, d3, rfl⟩ := h3.len
  refine calls_J (args := [g.ev (.slice la g.land.length lc), .agg ⟨[.slice ca cu.length cc, .slice wa wi.length wc]⟩, d.ev, .agg ⟨[.int .i64 t, .slice a1 l.length d1, .slice a2 r.length d2, .slice a3 b.length d3, .bool off]⟩, .int .i64 sec]) Try.func64 rfl Try.ntmps64 rfl ?_
  have H := Own.start w
  ((repeat refine JC.seq ?_); refine JC.region ?_)
  refine JL.box H rfl rfl rfl ?_
  intro b5 w1 H
  refine JL.box H rfl rfl rfl ?_
  intro b6 w2 H
  refine JL.box H rfl rfl rfl ?_
  intro b7 w3 H
  refine JL.box H rfl rfl rfl ?_
  intro b8 w4 H
  refine JL.alloc H z90 rfl ?_
  intro b10 w5 H
  refine JL.pure rfl rfl ?_
  refine JL.nil ?_
  ((repeat refine Ex.normal_block ?_); refine Ex.next ?_)
  ((repeat refine JC.seq ?_); refine JC.region ?_)
  refine JL.loadB 4 H rfl sh52 rfl rfl rfl ?_
  refine JL.loadB 3 H rfl sh84 rfl rfl rfl ?_
  refine JL.loadB 2 H rfl sh86 rfl rfl rfl ?_
  refine JL.build s220 rfl rfl ?_
  refine JL.alloc H z220 rfl ?_
  intro b12 w6 H
  refine JL.storeB 0 H rfl rfl sh220 rfl rfl rfl rfl rfl ?_
  intro w7 H
  refine JL.nil ?_
  ((repeat refine Ex.normal_block ?_); refine Ex.next ?_)
  ((repeat refine JC.seq ?_); refine JC.region ?_)
  refine JL.loadB 0 H rfl sh220 rfl rfl rfl ?_
  refine JL.pure rfl rfl ?_
  refine JL.callP H fb148 rfl rfl (right148_c g _ _ _ cu wi d sec _ (hl.grow H.below) (hc.grow H.below) (hw.grow H.below)) ?_
  intro w8 H _
  refine JL.pure rfl rfl ?_
  refine JL.pure rfl rfl ?_
  refine JL.cases 21 rfl ?_ ?_
  · intro h21
    (try simp only [Bool.not_eq_true', Bool.not_eq_false', decide_eq_true_eq, decide_eq_false_iff_not] at h21)
    have hsF : seaB g cu wi d sec = false := by simpa using h21
    refine JL.pass rfl rfl rfl rfl ?_
    refine JL.pass rfl rfl rfl rfl ?_
    refine JL.pass rfl rfl rfl rfl ?_
    refine JL.pass rfl rfl rfl rfl ?_
    refine JL.pure rfl rfl ?_
    refine JL.nil ?_
    ((repeat refine Ex.normal_block ?_); refine Ex.next ?_)
    ((repeat refine JC.seq ?_); refine JC.cond rfl (fun _ => ?_) (fun h => by cases h))
    ((repeat refine JC.seq ?_); refine JC.region ?_)
    refine JL.build s90 rfl rfl ?_
    refine JL.storeB 1 H rfl rfl sh90 rfl rfl rfl rfl rfl ?_
    intro w9 H
    refine JL.pure rfl rfl ?_
    refine JL.nil ?_
    ((repeat refine Ex.normal_block ?_); refine Ex.next ?_)
    ((repeat refine JC.seq ?_); refine JC.ret ?_)
    (repeat (first | refine Ex.ret_then ?_ | refine Ex.ret_block ?_))
    refine Ex.ret2 rfl (.cell rfl sh90 (LdAt.of_block (H.get (i := 1) rfl).2 rfl)) (.tmp rfl) ?_
    have hS : stepAllR g cu wi d ⟨t, l, r, b, off⟩ sec = (zQP, 2) := by
      unfold stepAllR
      rw [if_neg]
      rw [hsF]; simp
    rw [hS]
    exact PatR.zero ((((((H.drop 0).drop 0).drop 0).drop 0).drop 0).drop 0) 2
  · intro h21
    (try simp only [Bool.not_eq_true', Bool.not_eq_false', decide_eq_true_eq, decide_eq_false_iff_not] at h21)
    have hsT : seaB g cu wi d sec = true := by simpa using h21
    have hgok : g.ok = true := by unfold seaB flowsB at hsT; simp only [Bool.and_eq_true] at hsT; exact hsT.1.1.1.1
    refine JL.want rfl rfl ?_
    refine JL.loadB 5 H rfl sh52 rfl rfl rfl ?_
    refine JL.want rfl rfl ?_
    refine JL.loadB 2 H rfl sh90 rfl rfl rfl ?_
    refine JL.want rfl rfl ?_
    refine JL.callP H fb149 rfl rfl (checkPatch_c g _ t _ _ _ l r b off _ (hl.grow H.below) hcl (h1.grow H.below) (h2.grow H.below) (h3.grow H.below) c1 c2 c3) ?_
    intro w10 H _
    refine JL.re 24 rfl (v' := .int .i64 (if patR g ⟨t, l, r, b, off⟩ = true then 0 else 2)) rfl ?_
    refine JL.want rfl rfl ?_
    refine JL.pure rfl rfl ?_
    refine JL.pure rfl rfl ?_
    refine JL.nil ?_
    ((repeat refine Ex.normal_block ?_); refine Ex.next ?_)
    ((repeat refine JC.seq ?_); refine JC.cond rfl ?_ ?_)
    · intro h26
      (try simp only [Bool.not_eq_true', Bool.not_eq_false', decide_eq_true_eq, decide_eq_false_iff_not] at h26)
      have hpF : patR g ⟨t, l, r, b, off⟩ = false := by
        cases hp : patR g ⟨t, l, r, b, off⟩ with
        | false => rfl
        | true => exfalso; rw [hp] at h26; simp at h26
      ((repeat refine JC.seq ?_); refine JC.region ?_)
      refine JL.build s90 rfl rfl ?_
      refine JL.storeB 1 H rfl rfl sh90 rfl rfl rfl rfl rfl ?_
      intro w11 H
      refine JL.pure rfl rfl ?_
      refine JL.nil ?_
      ((repeat refine Ex.normal_block ?_); refine Ex.next ?_)
      ((repeat refine JC.seq ?_); refine JC.ret ?_)
      (repeat (first | refine Ex.ret_then ?_ | refine Ex.ret_block ?_))
      refine Ex.ret2 rfl (.cell rfl sh90 (LdAt.of_block (H.get (i := 1) rfl).2 rfl)) (.tmp rfl) ?_
      have hS : stepAllR g cu wi d ⟨t, l, r, b, off⟩ sec = (zQP, 2) := by
        unfold stepAllR
        rw [if_neg]
        rw [hpF]; simp
      rw [hS]
      exact PatR.zero ((((((H.drop 0).drop 0).drop 0).drop 0).drop 0).drop 0) 2
    · intro h26
      (try simp only [Bool.not_eq_true', Bool.not_eq_false', decide_eq_true_eq, decide_eq_false_iff_not] at h26)
      have hpT : patR g ⟨t, l, r, b, off⟩ = true := by
        cases hp : patR g ⟨t, l, r, b, off⟩ with
        | true => rfl
        | false => exfalso; rw [hp] at h26; simp at h26
      ((repeat refine JC.seq ?_); refine JC.skip ?_)
      ((repeat refine Ex.normal_block ?_); refine Ex.next ?_)
      ((repeat refine JC.seq ?_); refine JC.region ?_)
      refine JL.loadB 0 H rfl sh220 rfl rfl rfl ?_
      refine JL.loadB 2 H rfl sh90 rfl rfl rfl ?_
      refine JL.pure rfl rfl ?_
      refine JL.call fb151 rfl rfl (step151_c g _ _ _ cu wi d t _ _ _ l r b off sec _ (hl.grow H.below) (hc.grow H.below) (hw.grow H.below) (h1.grow H.below) (h2.grow H.below) (h3.grow H.below) hsT (hsm hgok) hpT) ?_
      rw [show stepR g cu wi d ⟨t, l, r, b, off⟩ sec = stepAllR g cu wi d ⟨t, l, r, b, off⟩ sec by unfold stepAllR; rw [hsT, hpT]; rfl]
      generalize stepAllR g cu wi d ⟨t, l, r, b, off⟩ sec = S9
      rintro _ w12 ⟨va, vb, vc, rfl, K⟩
      obtain ⟨ua, xa, rfl⟩ := K.row_slice (j := 0) rfl
      obtain ⟨ub, xb, rfl⟩ := K.row_slice (j := 1) rfl
      obtain ⟨uc, xc, rfl⟩ := K.row_slice (j := 2) rfl
      have H := H.join K
      refine ⟨_, rfl, ?_⟩
      refine JL.pure rfl rfl ?_
      refine JL.pure rfl rfl ?_
      refine JL.storeB 4 H rfl rfl sh90 rfl rfl rfl rfl rfl ?_
      intro w13 H
      refine JL.pure rfl rfl ?_
      refine JL.nil ?_
      ((repeat refine Ex.normal_block ?_); refine Ex.next ?_)
      ((repeat refine JC.seq ?_); refine JC.ret ?_)
      (repeat (first | refine Ex.ret_then ?_ | refine Ex.ret_block ?_))
      refine Ex.ret2 rfl (.cell rfl sh90 (LdAt.of_block (H.get (i := 4) rfl).2 rfl)) (.tmp rfl) ?_
      exact ⟨_, _, _, rfl, ((((((H.drop 3).drop 3).drop 3).drop 3).drop 3).drop 3)⟩
def pushAllR (g : Grid) (cu wi : List Flow) (d : Drifter) (c : Cell) (side time sec : Int) : Push × Int :=
  if seaB g cu wi d sec = true ∧ (0 ≤ c.X ∧ c.X ≤ g.W - 1) ∧ (0 ≤ c.Y ∧ c.Y ≤ g.H - 1) ∧ (0 ≤ side ∧ side ≤ 1) ∧ (0 ≤ time ∧ time ≤ 1073741824) then (if (pushR cu wi d c side time sec).2 = true then ((pushR cu wi d c side time sec).1, 0) else (⟨⟨0, 0⟩, ⟨0, 0⟩⟩, 7)) else (⟨⟨0, 0⟩, ⟨0, 0⟩⟩, 2)
theorem push116_c (g : Grid) (lv cv wv : Value) (cu wi : List Flow) (d : Drifter) (c : Cell) (side time sec : Int) (w : World) (hl : SlR w lv g.land) (hc : FlowsIs w cv cu) (hw : FlowsIs w wv wi) :
    Pur Try.prog 116 #[g.ev lv, .agg ⟨[cv, wv]⟩, d.ev, c.ev, .int .i64 side, .int .i64 time, .int .i64 sec] w (.tuple #[(pushAllR g cu wi d c side time sec).1.ev, .int .i64 (pushAllR g cu wi d c side time sec).2]) := by
  obtain ⟨la, lc, rfl⟩ := hl.len
  obtain ⟨ca, cc, rfl⟩ := hc.1.len
  obtain ⟨wa, wc, rfl⟩ := hw.1.len
  obtain ⟨R9, hR9⟩ : ∃ R, R = pushAllR g cu wi d c side time sec := ⟨_, rfl⟩
  rw [← hR9]
  unfold pushAllR at hR9
  refine pur_J (args := [g.ev (.slice la g.land.length lc), .agg ⟨[.slice ca cu.length cc, .slice wa wi.length wc]⟩, d.ev, c.ev, .int .i64 side, .int .i64 time, .int .i64 sec]) Try.func116 rfl Try.ntmps116 rfl ?_
  have H := Own.start w
  ((repeat refine JC.seq ?_); refine JC.region ?_)
  refine JL.box H rfl rfl rfl ?_
  intro b7 w1 H
  refine JL.box H rfl rfl rfl ?_
  intro b8 w2 H
  refine JL.box H rfl rfl rfl ?_
  intro b9 w3 H
  refine JL.box H rfl rfl rfl ?_
  intro b10 w4 H
  refine JL.alloc H z54 rfl ?_
  intro b14 w5 H
  refine JL.pure rfl rfl ?_
  refine JL.nil ?_
  ((repeat refine Ex.normal_block ?_); refine Ex.next ?_)
  ((repeat refine JC.seq ?_); refine JC.region ?_)
  refine JL.loadB 4 H rfl sh52 rfl rfl rfl ?_
  refine JL.loadB 3 H rfl sh84 rfl rfl rfl ?_
  refine JL.loadB 2 H rfl sh86 rfl rfl rfl ?_
  refine JL.build s220 rfl rfl ?_
  refine JL.alloc H z220 rfl ?_
  intro b16 w6 H
  refine JL.storeB 0 H rfl rfl sh220 rfl rfl rfl rfl rfl ?_
  intro w7 H
  refine JL.nil ?_
  ((repeat refine Ex.normal_block ?_); refine Ex.next ?_)
  ((repeat refine JC.seq ?_); refine JC.region ?_)
  refine JL.loadB 0 H rfl sh220 rfl rfl rfl ?_
  refine JL.pure rfl rfl ?_
  refine JL.callP H fb148 rfl rfl (right148_c g _ _ _ cu wi d sec _ (hl.grow H.below) (hc.grow H.below) (hw.grow H.below)) ?_
  intro w8 H _
  refine JL.pure rfl rfl ?_
  refine JL.pure rfl rfl ?_
  refine JL.cases 27 rfl ?_ ?_
  · intro h27
    (try simp only [Bool.not_eq_true', Bool.not_eq_false', decide_eq_true_eq, decide_eq_false_iff_not] at h27)
    have hsF : seaB g cu wi d sec = false := by simpa using h27
    refine JL.pass rfl rfl rfl rfl ?_
    refine JL.pass rfl rfl rfl rfl ?_
    refine JL.pass rfl rfl rfl rfl ?_
    refine JL.pass rfl rfl rfl rfl ?_
    refine JL.pass rfl rfl rfl rfl ?_
    refine JL.pass rfl rfl rfl rfl ?_
    refine JL.pass rfl rfl rfl rfl ?_
    refine JL.pure rfl rfl ?_
    refine JL.pure rfl rfl ?_
    refine JL.pass rfl rfl rfl rfl ?_
    refine JL.pass rfl rfl rfl rfl ?_
    refine JL.pass rfl rfl rfl rfl ?_
    refine JL.pass rfl rfl rfl rfl ?_
    refine JL.pass rfl rfl rfl rfl ?_
    refine JL.pass rfl rfl rfl rfl ?_
    refine JL.pass rfl rfl rfl rfl ?_
    refine JL.pure rfl rfl ?_
    refine JL.pure rfl rfl ?_
    refine JL.pass rfl rfl rfl rfl ?_
    refine JL.pass rfl rfl rfl rfl ?_
    refine JL.pass rfl rfl rfl rfl ?_
    refine JL.pure rfl rfl ?_
    refine JL.pure rfl rfl ?_
    refine JL.pass rfl rfl rfl rfl ?_
    refine JL.pass rfl rfl rfl rfl ?_
    refine JL.pass rfl rfl rfl rfl ?_
    refine JL.pure rfl rfl ?_
    refine JL.nil ?_
    ((repeat refine Ex.normal_block ?_); refine Ex.next ?_)
    ((repeat refine JC.seq ?_); refine JC.cond rfl (fun _ => ?_) (fun h => by cases h))
    ((repeat refine JC.seq ?_); refine JC.region ?_)
    refine JL.build s54 rfl rfl ?_
    refine JL.storeB 1 H rfl rfl sh54 rfl rfl rfl rfl rfl ?_
    intro w9 H
    refine JL.pure rfl rfl ?_
    refine JL.nil ?_
    ((repeat refine Ex.normal_block ?_); refine Ex.next ?_)
    ((repeat refine JC.seq ?_); refine JC.ret ?_)
    (repeat (first | refine Ex.ret_then ?_ | refine Ex.ret_block ?_))
    refine Ex.ret2 rfl (.cell rfl sh54 (LdAt.of_block (H.get (i := 1) rfl).2 rfl)) (.tmp rfl) ⟨?_, H.below⟩
    rw [if_neg (by rintro ⟨h, _⟩; rw [hsF] at h; cases h)] at hR9
    rw [hR9]
    rfl
  · intro h27
    (try simp only [Bool.not_eq_true', Bool.not_eq_false', decide_eq_true_eq, decide_eq_false_iff_not] at h27)
    have hsT : seaB g cu wi d sec = true := by simpa using h27
    have hgok : g.ok = true := by unfold seaB flowsB at hsT; simp only [Bool.and_eq_true] at hsT; exact hsT.1.1.1.1
    obtain ⟨hgW, hgH, _, _⟩ := Grid.ok_b hgok
    refine JL.want rfl rfl ?_
    refine JL.fieldAddr rfl Try.underlying62 rfl sh3 rfl ?_
    refine JL.want rfl rfl ?_
    refine JL.loadB 2 H rfl sh3 rfl rfl rfl ?_
    refine JL.want rfl rfl ?_
    refine JL.fieldAddr rfl Try.underlying52 rfl sh3 rfl ?_
    refine JL.want rfl rfl ?_
    refine JL.loadB 5 H rfl sh3 rfl rfl rfl ?_
    refine JL.want rfl rfl ?_
    refine JL.arith rfl (by unfold In64; omega) rfl ?_
    refine JL.want rfl rfl ?_
    refine JL.callP H fb204 rfl rfl (withinD_c _ _ _ _) ?_
    intro w10 H _
    refine JL.want rfl rfl ?_
    refine JL.pure rfl rfl ?_
    refine JL.pure rfl rfl ?_
    refine JL.pure rfl rfl ?_
    refine JL.cases 36 rfl ?_ ?_
    · intro h36
      (try simp only [Bool.not_eq_true', Bool.not_eq_false', decide_eq_true_eq, decide_eq_false_iff_not] at h36)
      have g36 : ¬ (0 ≤ c.X ∧ c.X ≤ g.W - 1) := by simpa using h36
      refine JL.pass rfl rfl rfl rfl ?_
      refine JL.pass rfl rfl rfl rfl ?_
      refine JL.pass rfl rfl rfl rfl ?_
      refine JL.pass rfl rfl rfl rfl ?_
      refine JL.pass rfl rfl rfl rfl ?_
      refine JL.pass rfl rfl rfl rfl ?_
      refine JL.pass rfl rfl rfl rfl ?_
      refine JL.pure rfl rfl ?_
      refine JL.pure rfl rfl ?_
      refine JL.pass rfl rfl rfl rfl ?_
      refine JL.pass rfl rfl rfl rfl ?_
      refine JL.pass rfl rfl rfl rfl ?_
      refine JL.pure rfl rfl ?_
      refine JL.pure rfl rfl ?_
      refine JL.pass rfl rfl rfl rfl ?_
      refine JL.pass rfl rfl rfl rfl ?_
      refine JL.pass rfl rfl rfl rfl ?_
      refine JL.pure rfl rfl ?_
      refine JL.nil ?_
      ((repeat refine Ex.normal_block ?_); refine Ex.next ?_)
      ((repeat refine JC.seq ?_); refine JC.cond rfl (fun _ => ?_) (fun h => by cases h))
      ((repeat refine JC.seq ?_); refine JC.region ?_)
      refine JL.build s54 rfl rfl ?_
      refine JL.storeB 1 H rfl rfl sh54 rfl rfl rfl rfl rfl ?_
      intro w11 H
      refine JL.pure rfl rfl ?_
      refine JL.nil ?_
      ((repeat refine Ex.normal_block ?_); refine Ex.next ?_)
      ((repeat refine JC.seq ?_); refine JC.ret ?_)
      (repeat (first | refine Ex.ret_then ?_ | refine Ex.ret_block ?_))
      refine Ex.ret2 rfl (.cell rfl sh54 (LdAt.of_block (H.get (i := 1) rfl).2 rfl)) (.tmp rfl) ⟨?_, H.below⟩
      rw [if_neg (by rintro ⟨_, h, _⟩; exact g36 h)] at hR9
      rw [hR9]
      rfl
    · intro h36
      (try simp only [Bool.not_eq_true', Bool.not_eq_false', decide_eq_true_eq, decide_eq_false_iff_not] at h36)
      have g36 : (0 ≤ c.X ∧ c.X ≤ g.W - 1) := by simpa using h36
      refine JL.want rfl rfl ?_
      refine JL.fieldAddr rfl Try.underlying62 rfl sh3 rfl ?_
      refine JL.want rfl rfl ?_
      refine JL.loadB 2 H rfl sh3 rfl rfl rfl ?_
      refine JL.want rfl rfl ?_
      refine JL.fieldAddr rfl Try.underlying52 rfl sh3 rfl ?_
      refine JL.want rfl rfl ?_
      refine JL.loadB 5 H rfl sh3 rfl rfl rfl ?_
      refine JL.want rfl rfl ?_
      refine JL.arith rfl (by unfold In64; omega) rfl ?_
      refine JL.want rfl rfl ?_
      refine JL.callP H fb204 rfl rfl (withinD_c _ _ _ _) ?_
      intro w12 H _
      refine JL.want rfl rfl ?_
      refine JL.pure rfl rfl ?_
      refine JL.pure rfl rfl ?_
      refine JL.pure rfl rfl ?_
      refine JL.cases 45 rfl ?_ ?_
      · intro h45
        (try simp only [Bool.not_eq_true', Bool.not_eq_false', decide_eq_true_eq, decide_eq_false_iff_not] at h45)
        have g45 : ¬ (0 ≤ c.Y ∧ c.Y ≤ g.H - 1) := by simpa using h45
        refine JL.pass rfl rfl rfl rfl ?_
        refine JL.pass rfl rfl rfl rfl ?_
        refine JL.pass rfl rfl rfl rfl ?_
        refine JL.pure rfl rfl ?_
        refine JL.pure rfl rfl ?_
        refine JL.pass rfl rfl rfl rfl ?_
        refine JL.pass rfl rfl rfl rfl ?_
        refine JL.pass rfl rfl rfl rfl ?_
        refine JL.pure rfl rfl ?_
        refine JL.nil ?_
        ((repeat refine Ex.normal_block ?_); refine Ex.next ?_)
        ((repeat refine JC.seq ?_); refine JC.cond rfl (fun _ => ?_) (fun h => by cases h))
        ((repeat refine JC.seq ?_); refine JC.region ?_)
        refine JL.build s54 rfl rfl ?_
        refine JL.storeB 1 H rfl rfl sh54 rfl rfl rfl rfl rfl ?_
        intro w13 H
        refine JL.pure rfl rfl ?_
        refine JL.nil ?_
        ((repeat refine Ex.normal_block ?_); refine Ex.next ?_)
        ((repeat refine JC.seq ?_); refine JC.ret ?_)
        (repeat (first | refine Ex.ret_then ?_ | refine Ex.ret_block ?_))
        refine Ex.ret2 rfl (.cell rfl sh54 (LdAt.of_block (H.get (i := 1) rfl).2 rfl)) (.tmp rfl) ⟨?_, H.below⟩
        rw [if_neg (by rintro ⟨_, _, h, _⟩; exact g45 h)] at hR9
        rw [hR9]
        rfl
      · intro h45
        (try simp only [Bool.not_eq_true', Bool.not_eq_false', decide_eq_true_eq, decide_eq_false_iff_not] at h45)
        have g45 : (0 ≤ c.Y ∧ c.Y ≤ g.H - 1) := by simpa using h45
        refine JL.want rfl rfl ?_
        refine JL.pure rfl rfl ?_
        refine JL.want rfl rfl ?_
        refine JL.callP H fb204 rfl rfl (withinD_c _ _ _ _) ?_
        intro w14 H _
        refine JL.want rfl rfl ?_
        refine JL.pure rfl rfl ?_
        refine JL.pure rfl rfl ?_
        refine JL.pure rfl rfl ?_
        refine JL.cases 50 rfl ?_ ?_
        · intro h50
          (try simp only [Bool.not_eq_true', Bool.not_eq_false', decide_eq_true_eq, decide_eq_false_iff_not] at h50)
          have g50 : ¬ (0 ≤ side ∧ side ≤ 1) := by simpa using h50
          refine JL.pass rfl rfl rfl rfl ?_
          refine JL.pass rfl rfl rfl rfl ?_
          refine JL.pass rfl rfl rfl rfl ?_
          refine JL.pure rfl rfl ?_
          refine JL.nil ?_
          ((repeat refine Ex.normal_block ?_); refine Ex.next ?_)
          ((repeat refine JC.seq ?_); refine JC.cond rfl (fun _ => ?_) (fun h => by cases h))
          ((repeat refine JC.seq ?_); refine JC.region ?_)
          refine JL.build s54 rfl rfl ?_
          refine JL.storeB 1 H rfl rfl sh54 rfl rfl rfl rfl rfl ?_
          intro w15 H
          refine JL.pure rfl rfl ?_
          refine JL.nil ?_
          ((repeat refine Ex.normal_block ?_); refine Ex.next ?_)
          ((repeat refine JC.seq ?_); refine JC.ret ?_)
          (repeat (first | refine Ex.ret_then ?_ | refine Ex.ret_block ?_))
          refine Ex.ret2 rfl (.cell rfl sh54 (LdAt.of_block (H.get (i := 1) rfl).2 rfl)) (.tmp rfl) ⟨?_, H.below⟩
          rw [if_neg (by rintro ⟨_, _, _, h, _⟩; exact g50 h)] at hR9
          rw [hR9]
          rfl
        · intro h50
          (try simp only [Bool.not_eq_true', Bool.not_eq_false', decide_eq_true_eq, decide_eq_false_iff_not] at h50)
          have g50 : (0 ≤ side ∧ side ≤ 1) := by simpa using h50
          refine JL.want rfl rfl ?_
          refine JL.pure rfl rfl ?_
          refine JL.want rfl rfl ?_
          refine JL.callP H fb204 rfl rfl (withinD_c _ _ _ _) ?_
          intro w16 H _
          refine JL.want rfl rfl ?_
          refine JL.pure rfl rfl ?_
          refine JL.pure rfl rfl ?_
          refine JL.nil ?_
          ((repeat refine Ex.normal_block ?_); refine Ex.next ?_)
          ((repeat refine JC.seq ?_); refine JC.cond rfl ?_ ?_)
          · intro h54
            (try simp only [Bool.not_eq_true', Bool.not_eq_false', decide_eq_true_eq, decide_eq_false_iff_not] at h54)
            have g54 : ¬ (0 ≤ time ∧ time ≤ 1073741824) := by simpa using h54
            ((repeat refine JC.seq ?_); refine JC.region ?_)
            refine JL.build s54 rfl rfl ?_
            refine JL.storeB 1 H rfl rfl sh54 rfl rfl rfl rfl rfl ?_
            intro w17 H
            refine JL.pure rfl rfl ?_
            refine JL.nil ?_
            ((repeat refine Ex.normal_block ?_); refine Ex.next ?_)
            ((repeat refine JC.seq ?_); refine JC.ret ?_)
            (repeat (first | refine Ex.ret_then ?_ | refine Ex.ret_block ?_))
            refine Ex.ret2 rfl (.cell rfl sh54 (LdAt.of_block (H.get (i := 1) rfl).2 rfl)) (.tmp rfl) ⟨?_, H.below⟩
            rw [if_neg (by rintro ⟨_, _, _, _, h⟩; exact g54 h)] at hR9
            rw [hR9]
            rfl
          · intro h54
            (try simp only [Bool.not_eq_true', Bool.not_eq_false', decide_eq_true_eq, decide_eq_false_iff_not] at h54)
            have g54 : 0 ≤ time ∧ time ≤ 1073741824 := by simpa using h54
            ((repeat refine JC.seq ?_); refine JC.skip ?_)
            ((repeat refine Ex.normal_block ?_); refine Ex.next ?_)
            ((repeat refine JC.seq ?_); refine JC.region ?_)
            refine JL.loadB 0 H rfl sh220 rfl rfl rfl ?_
            refine JL.loadB 2 H rfl sh62 rfl rfl rfl ?_
            refine JL.pure rfl rfl ?_
            refine JL.pure rfl rfl ?_
            refine JL.pure rfl rfl ?_
            refine JL.callP H fb205 rfl rfl (push205_c g _ _ _ cu wi d c side time sec _ (hl.grow H.below) (hc.grow H.below) (hw.grow H.below) hsT) ?_
            intro w18 H _
            generalize pushR cu wi d c side time sec = P9 at *
            refine JL.pure rfl rfl ?_
            refine JL.pure rfl rfl ?_
            refine JL.pure rfl rfl ?_
            refine JL.alloc H z54 rfl ?_
            intro b17 w19 H
            refine JL.storeB 0 H rfl rfl sh54 rfl rfl rfl rfl rfl ?_
            intro w20 H
            refine JL.pure rfl rfl ?_
            refine JL.nil ?_
            ((repeat refine Ex.normal_block ?_); refine Ex.next ?_)
            ((repeat refine JC.seq ?_); refine JC.region ?_)
            refine JL.pure rfl rfl ?_
            refine JL.pure rfl rfl ?_
            refine JL.nil ?_
            ((repeat refine Ex.normal_block ?_); refine Ex.next ?_)
            ((repeat refine JC.seq ?_); refine JC.cond rfl ?_ ?_)
            · intro h66
              (try simp only [Bool.not_eq_true', Bool.not_eq_false', decide_eq_true_eq, decide_eq_false_iff_not] at h66)
              ((repeat refine JC.seq ?_); refine JC.region ?_)
              refine JL.build s54 rfl rfl ?_
              refine JL.storeB 2 H rfl rfl sh54 rfl rfl rfl rfl rfl ?_
              intro w21 H
              refine JL.pure rfl rfl ?_
              refine JL.nil ?_
              ((repeat refine Ex.normal_block ?_); refine Ex.next ?_)
              ((repeat refine JC.seq ?_); refine JC.ret ?_)
              (repeat (first | refine Ex.ret_then ?_ | refine Ex.ret_block ?_))
              refine Ex.ret2 rfl (.cell rfl sh54 (LdAt.of_block (H.get (i := 2) rfl).2 rfl)) (.tmp rfl) ⟨?_, H.below⟩
              rw [if_pos ⟨hsT, g36, g45, g50, g54⟩, if_neg (by simpa using h66)] at hR9
              rw [hR9]
              rfl
            · intro h66
              (try simp only [Bool.not_eq_true', Bool.not_eq_false', decide_eq_true_eq, decide_eq_false_iff_not] at h66)
              ((repeat refine JC.seq ?_); refine JC.skip ?_)
              ((repeat refine Ex.normal_block ?_); refine Ex.next ?_)
              ((repeat refine JC.seq ?_); refine JC.region ?_)
              refine JL.loadB 0 H rfl sh54 rfl rfl rfl ?_
              refine JL.storeB 2 H rfl rfl sh54 rfl rfl rfl rfl rfl ?_
              intro w22 H
              refine JL.pure rfl rfl ?_
              refine JL.nil ?_
              ((repeat refine Ex.normal_block ?_); refine Ex.next ?_)
              ((repeat refine JC.seq ?_); refine JC.ret ?_)
              (repeat (first | refine Ex.ret_then ?_ | refine Ex.ret_block ?_))
              refine Ex.ret2 rfl (.cell rfl sh54 (LdAt.of_block (H.get (i := 2) rfl).2 rfl)) (.tmp rfl) ⟨?_, H.below⟩
              rw [if_pos ⟨hsT, g36, g45, g50, g54⟩, if_pos (by simpa using h66)] at hR9
              rw [hR9]
              rfl
theorem at65_c (x y : Int) (w : World) : Calls Try.prog 65 #[.int .i64 x, .int .i64 y] w (fun e w' => ∃ v, e = .returned v ∧ Own w w' [runRow v (oneR x y)]) := by
  refine calls_J (args := [.int .i64 x, .int .i64 y]) Try.func65 rfl Try.ntmps65 rfl ?_
  have H := Own.start w
  ((repeat refine JC.seq ?_); refine JC.region ?_)
  refine JL.pure rfl rfl ?_
  refine JL.nil ?_
  ((repeat refine Ex.normal_block ?_); refine Ex.next ?_)
  ((repeat refine JC.seq ?_); refine JC.region ?_)
  refine JL.pure rfl rfl ?_
  refine JL.pure rfl rfl ?_
  refine JL.pure rfl rfl ?_
  refine JL.pure rfl rfl ?_
  refine JL.build s140 rfl rfl ?_
  refine JL.buildSlice H Try.underlying50 sh140 z140 rfl rfl rfl rfl rfl ?_
  intro b10 w1 H
  refine JL.pure rfl rfl ?_
  refine JL.nil ?_
  ((repeat refine Ex.normal_block ?_); refine Ex.next ?_)
  ((repeat refine JC.seq ?_); refine JC.ret ?_)
  (repeat (first | refine Ex.ret_then ?_ | refine Ex.ret_block ?_))
  refine Ex.ret1 rfl (.tmp rfl) ⟨_, rfl, ?_⟩
  exact H.blkRow (j := 0) (enc := Run.cs) rfl (oneR x y) rfl (fun _ => rfl) (by simp [oneR])
/-! the bay -/
def Flow.cs (f : Flow) : List Value := [.int .i64 f.fr, .int .i64 f.to, f.wv, .int .i64 f.low.X, .int .i64 f.low.Y, .int .i64 f.high.X, .int .i64 f.high.Y]
def bayA : List Run := [⟨0, 0, 5⟩, ⟨1, 0, 5⟩, ⟨2, 0, 5⟩, ⟨3, 0, 5⟩, ⟨4, 0, 5⟩]
def bayG : Grid := ⟨5, 5, 100, [⟨0, 4, 5⟩, ⟨1, 4, 5⟩, ⟨2, 4, 5⟩, ⟨3, 4, 5⟩, ⟨4, 4, 5⟩]⟩
def bayC (v : Value) : List Flow := [⟨0, 1073741824, v, bayA, ⟨0, 0⟩, ⟨0, 0⟩⟩]
def bayW (v : Value) : List Flow := [⟨0, 1073741824, v, bayA, ⟨5000, 0⟩, ⟨5000, 0⟩⟩]
def bayD : Drifter := ⟨20, 20, 10, 20, false⟩
theorem bay_c (w : World) : Calls Try.prog 115 #[] w (fun e w' => ∃ lv av b1 b2, e = .returned (seaEv bayG lv (.slice (some ⟨b1, 0, none⟩) 1 1) (.slice (some ⟨b2, 0, none⟩) 1 1) bayD) ∧
    Own w w' [blk b1 (.cells ⟨[.int .i64 0, .int .i64 1073741824, av, .int .i64 0, .int .i64 0, .int .i64 0, .int .i64 0]⟩ 218 (0, 0)), blk b2 (.cells ⟨[.int .i64 0, .int .i64 1073741824, av, .int .i64 5000, .int .i64 0, .int .i64 5000, .int .i64 0]⟩ 218 (0, 0)), runRow av bayA, runRow lv bayG.land]) := by
  refine calls_J (args := []) Try.func115 rfl Try.ntmps115 rfl ?_
  have H := Own.start w
  ((repeat refine JC.seq ?_); refine JC.region ?_)
  refine JL.alloc H z88 rfl ?_
  intro b0 w1 H
  refine JL.nil ?_
  ((repeat refine Ex.normal_block ?_); refine Ex.next ?_)
  ((repeat refine JC.seq ?_); refine JC.region ?_)
  refine JL.pure rfl rfl ?_
  refine JL.pure rfl rfl ?_
  refine JL.nil ?_
  ((repeat refine Ex.normal_block ?_); refine Ex.next ?_)
  ((repeat refine JC.seq ?_); refine JC.region ?_)
  refine JL.pure rfl rfl ?_
  refine JL.nil ?_
  ((repeat refine Ex.normal_block ?_); refine Ex.next ?_)
  ((repeat refine JC.seq ?_); refine JC.block ?_)
  ((repeat refine JC.seq ?_); refine JC.loop (ι := Nat × Value × Value) (fun x => [(0, .pointer (some ⟨b0, 0, none⟩)), (1, x.2.1), (2, x.2.2), (6, .int .i64 x.1)])
    (fun x wr => x.1 ≤ 5 ∧ Own w wr [runRow x.2.1 (bayA.take x.1), runRow x.2.2 (bayG.land.take x.1), blk b0 (.cells ⟨[.int .i64 0, .int .i64 0, .int .i64 0, .slice none 0 0, .slice none 0 0, .slice none 0 0, .int .i64 0, .int .i64 0, .int .i64 0, .int .i64 0, .bool false]⟩ 88 (0, 0))]) (fun x => 5 - x.1) (0, .slice none 0 0, .slice none 0 0) ?_ ?_ ?_)
  · exact ⟨rfl, rfl, rfl, rfl, trivial⟩
  · exact ⟨Nat.zero_le _, (H.nilRow 140 3).nilRow 140 3⟩
  · rintro ⟨k, va, vl⟩ wr ⟨hk, H⟩
    simp only at hk H
    show JC _ _ _ _ [(0, .pointer (some ⟨b0, 0, none⟩)), (1, va), (2, vl), (6, .int .i64 k)] _
    ((repeat refine JC.seq ?_); refine JC.region ?_)
    refine JL.pure rfl rfl ?_
    refine JL.nil ?_
    ((repeat refine Ex.normal_block ?_); refine Ex.next ?_)
    ((repeat refine JC.seq ?_); refine JC.cond rfl ?_ ?_)
    · intro h7
      (try simp only [Bool.not_eq_true', Bool.not_eq_false', decide_eq_true_eq, decide_eq_false_iff_not] at h7)
      have h7 : k < 5 := by omega
      have htk : bayA.take (k + 1) = bayA.take k ++ [⟨(k : Int), 0, 5⟩] ∧ bayG.land.take (k + 1) = bayG.land.take k ++ [⟨(k : Int), 4, 5⟩] := by
        rcases (show k = 0 ∨ k = 1 ∨ k = 2 ∨ k = 3 ∨ k = 4 by omega) with rfl | rfl | rfl | rfl | rfl <;> exact ⟨rfl, rfl⟩
      have hla : (bayA.take k).length ≤ 5 := by rw [List.length_take]; omega
      have hll : (bayG.land.take k).length ≤ 5 := by rw [List.length_take]; omega
      ((repeat refine JC.seq ?_); refine JC.skip ?_)
      ((repeat refine Ex.normal_block ?_); refine Ex.next ?_)
      ((repeat refine JC.seq ?_); refine JC.block ?_)
      ((repeat refine JC.seq ?_); refine JC.region ?_)
      refine JL.pure rfl rfl ?_
      refine JL.pure rfl rfl ?_
      refine JL.nil ?_
      ((repeat refine Ex.normal_block ?_); refine Ex.next ?_)
      ((repeat refine JC.seq ?_); refine JC.region ?_)
      refine JL.pure rfl rfl ?_
      refine JL.pure rfl rfl ?_
      refine JL.build s140 rfl rfl ?_
      refine JL.buildSlice H Try.underlying50 sh140 z140 rfl rfl rfl rfl rfl ?_
      intro b12 w2 H
      refine JL.append1 (news := Run.cs ⟨(k : Int), 0, 5⟩) 1 0 H Try.underlying50 ap140 rfl rfl rfl rfl rfl rfl (by omega) (by omega) rfl ?_
      intro va2 w3 H
      have H := H.upd (j := 1) (B := runRow va2 (bayA.take (k + 1))) rfl (fun h hh => by rw [htk.1]; unfold runRow; rw [← trow_snoc]; exact hh)
      have H := H.drop 0
      refine JL.pure rfl rfl ?_
      refine JL.nil ?_
      ((repeat refine Ex.normal_block ?_); refine Ex.next ?_)
      ((repeat refine JC.seq ?_); refine JC.region ?_)
      refine JL.pure rfl rfl ?_
      refine JL.pure rfl rfl ?_
      refine JL.build s140 rfl rfl ?_
      refine JL.buildSlice H Try.underlying50 sh140 z140 rfl rfl rfl rfl rfl ?_
      intro b17 w4 H
      refine JL.append1 (news := Run.cs ⟨(k : Int), 4, 5⟩) 2 0 H Try.underlying50 ap140 rfl rfl rfl rfl rfl rfl (by omega) (by omega) rfl ?_
      intro vl2 w5 H
      have H := H.upd (j := 2) (B := runRow vl2 (bayG.land.take (k + 1))) rfl (fun h hh => by rw [htk.2]; unfold runRow; rw [← trow_snoc]; exact hh)
      refine JL.pure rfl rfl ?_
      refine JL.nil ?_
      ((repeat refine Ex.normal_block ?_); refine Ex.next ?_)
      ((repeat refine JC.seq ?_); refine JC.region ?_)
      refine JL.arith rfl (by unfold In64; omega) rfl ?_
      refine JL.pure rfl rfl ?_
      refine JL.nil ?_
      (repeat refine Ex.normal_block ?_)
      exact Ex.again (k + 1, va2, vl2) ⟨rfl, rfl, rfl, rfl, trivial⟩ ⟨h7, H.drop 0⟩ (by simp only; omega)
    · intro h7
      (try simp only [Bool.not_eq_true', Bool.not_eq_false', decide_eq_true_eq, decide_eq_false_iff_not] at h7)
      have hk5 : k = 5 := by omega
      subst hk5
      have hcl := H.rowCap (j := 1) rfl
      obtain ⟨aa, ac, rfl⟩ := H.row_slice (j := 0) rfl
      obtain ⟨la, lc, rfl⟩ := H.row_slice (j := 1) rfl
      ((repeat refine JC.seq ?_); refine JC.exit ?_)
      (repeat (first | refine Ex.exit_then ?_ | refine Ex.exit_miss (by decide) ?_))
      refine Ex.exit_hit ?_
      ((repeat refine Ex.normal_block ?_); refine Ex.next ?_)
      ((repeat refine JC.seq ?_); refine JC.region ?_)
      refine JL.build s23 rfl rfl ?_
      refine JL.alloc H z23 rfl ?_
      intro b4 w6 H
      refine JL.storeB 0 H rfl rfl sh23 rfl rfl rfl rfl rfl ?_
      intro w7 H
      refine JL.nil ?_
      ((repeat refine Ex.normal_block ?_); refine Ex.next ?_)
      ((repeat refine JC.seq ?_); refine JC.region ?_)
      refine JL.pure rfl rfl ?_
      refine JL.build s218 rfl rfl ?_
      refine JL.buildSlice H Try.underlying82 sh218 z218 rfl rfl rfl rfl rfl ?_
      intro b23 w8 H
      refine JL.pure rfl rfl ?_
      refine JL.loadB 1 H rfl sh23 rfl rfl rfl ?_
      refine JL.loadB 1 H rfl sh23 rfl rfl rfl ?_
      refine JL.build s218 rfl rfl ?_
      refine JL.buildSlice H Try.underlying82 sh218 z218 rfl rfl rfl rfl rfl ?_
      intro b28 w9 H
      refine JL.build s84 rfl rfl ?_
      refine JL.alloc H z84 rfl ?_
      intro b5 w10 H
      refine JL.storeB 0 H rfl rfl sh84 rfl rfl rfl rfl rfl ?_
      intro w11 H
      refine JL.nil ?_
      ((repeat refine Ex.normal_block ?_); refine Ex.next ?_)
      ((repeat refine JC.seq ?_); refine JC.region ?_)
      refine JL.pure rfl rfl ?_
      refine JL.build s52 rfl rfl ?_
      refine JL.loadB 0 H rfl sh84 rfl rfl rfl ?_
      refine JL.build s86 rfl rfl ?_
      refine JL.build s88 rfl rfl ?_
      refine JL.storeB 6 H rfl rfl sh88 rfl rfl rfl rfl rfl ?_
      intro w12 H
      refine JL.nil ?_
      ((repeat refine Ex.normal_block ?_); refine Ex.next ?_)
      ((repeat refine JC.seq ?_); refine JC.ret ?_)
      (repeat (first | refine Ex.ret_then ?_ | refine Ex.ret_block ?_))
      refine Ex.ret1 rfl (.cell rfl sh88 (LdAt.of_block (H.get (i := 6) rfl).2 rfl)) ⟨_, .slice aa bayA.length ac, _, _, rfl, ?_⟩
      have H := H.front 5 rfl
      have H := H.front 5 rfl
      have H := H.front 3 rfl
      have H := H.front 4 rfl
      exact (((H.drop 4).drop 4).drop 4)
theorem bay_facts {w0 w : World} {L : List HP} {lv av : Value} {b1 b2 : Nat} (H : Own w0 w L) (i1 i2 i3 i4 : Nat) (h1 : L[i1]? = some (blk b1 (.cells ⟨[.int .i64 0, .int .i64 1073741824, av, .int .i64 0, .int .i64 0, .int .i64 0, .int .i64 0]⟩ 218 (0, 0))))
    (h2 : L[i2]? = some (blk b2 (.cells ⟨[.int .i64 0, .int .i64 1073741824, av, .int .i64 5000, .int .i64 0, .int .i64 5000, .int .i64 0]⟩ 218 (0, 0)))) (h3 : L[i3]? = some (runRow av bayA)) (h4 : L[i4]? = some (runRow lv bayG.land)) :
    SlR w lv bayG.land ∧ capOK lv ∧ FlowsIs w (.slice (some ⟨b1, 0, none⟩) 1 1) (bayC av) ∧ FlowsIs w (.slice (some ⟨b2, 0, none⟩) 1 1) (bayW av) := by
  refine ⟨runSl H h4 (by decide), H.rowCap h4, ⟨H.blkSl (enc := Flow.cs) h1 (bayC av) rfl (fun _ => rfl) (by simp [bayC]), fun f hf => ?_⟩, ⟨H.blkSl (enc := Flow.cs) h2 (bayW av) rfl (fun _ => rfl) (by simp [bayW]), fun f hf => ?_⟩⟩
  · simp only [bayC, List.mem_singleton] at hf
    subst hf
    exact runSl H h3 (show bayA.length ≤ 9223372036854775807 by decide)
  · simp only [bayW, List.mem_singleton] at hf
    subst hf
    exact runSl H h3 (show bayA.length ≤ 9223372036854775807 by decide)
end Go.J

namespace Go.J
set_option linter.unusedSimpArgs false
set_option linter.unusedVariables false
open Go.RowKit
/-! ## a stretch of a drawn region, told by an invariant of what has come -/
section
variable {P : Program} {N : Sz} {ops : Array Oper} {Q : Exit → Act → World → Prop}
theorem pre_eq {n : Nat} {listed : Array Bool} (hn : n ≤ ops.size) (h : ∀ j, j < n → listed.getD j false = true) (inv : HeadInv .any ops n listed) : listed = pre ops n := by
  have hs : listed.size = ops.size := inv.size
  apply Array.ext
  · simp [pre, hs]; try omega
  · intro i h1 h2
    by_cases hi : i < n
    · have := h i hi
      have h3 : (pre ops n).getD i false = true := pre_lt hi _
      rw [Array.getD_eq_getD_getElem?, Array.getElem?_eq_getElem h1] at this
      rw [Array.getD_eq_getD_getElem?, Array.getElem?_eq_getElem h2] at h3
      simp only [Option.getD_some] at this h3
      rw [this, h3]
    · have := inv.tail i (by omega) (by omega)
      have h3 : (pre ops n).getD i false = false := pre_ge (by omega)
      rw [Array.getD_eq_getD_getElem?, Array.getElem?_eq_getElem h1] at this
      rw [Array.getD_eq_getD_getElem?, Array.getElem?_eq_getElem h2] at h3
      simp only [Option.getD_some] at this h3
      rw [this, h3]
theorem segX_any {m n : Nat} (Inv : (Nat → Bool) → Act → World → Prop) (hback : backB ops = true) (hn : n ≤ ops.size) (hw : waitB ops m n = true)
    (hstep : ∀ (i : Nat) (o : Oper) (l : Nat → Bool) a w, m ≤ i → i < n → ops[i]? = some o → l i = false → (∀ j, depsOf o.after j = true → l j = true) → (∀ j, j < m → l j = true) → Inv l a w → wpListIn (wideR N.ro) 0 P ops (Exit.then (fun a' w' => Inv (fun j => decide (j = i) || l j) a' w') Q) [o] a w)
    (hfin : ∀ (l : Nat → Bool) a w, (∀ j, j < n → l j = true) → Inv l a w → wpAnyIn (wideR N.ro) 0 P .any ops Q (ops.size - n) (pre ops n) a w) :
    ∀ (fuel : Nat) (listed : Array Bool) (a : Act) (w : World), listed.toList.count false = fuel → HeadInv .any ops n listed → (∀ j, j < m → listed.getD j false = true) → Inv (fun j => listed.getD j false) a w → wpAnyIn (wideR N.ro) 0 P .any ops Q fuel listed a w := by
  have hdone : ∀ (fuel : Nat) (listed : Array Bool) a w, (∀ j, j < n → listed.getD j false = true) → HeadInv .any ops n listed → listed.toList.count false = fuel → Inv (fun j => listed.getD j false) a w → wpAnyIn (wideR N.ro) 0 P .any ops Q fuel listed a w := by
    intro fuel listed a w h inv hc hI
    have e := pre_eq hn h inv
    subst e
    rw [pre_count hn] at hc
    subst hc
    exact hfin _ a w h hI
  intro fuel
  induction fuel with
  | zero =>
    intro listed a w hcount inv hm0 hI
    refine hdone _ listed a w (fun i hi => ?_) inv hcount hI
    have hlt : i < listed.size := by have := inv.size; omega
    have h0 := List.count_eq_zero.1 hcount
    cases hc : listed.getD i false with
    | true => rfl
    | false =>
      exfalso
      apply h0
      simp [hlt] at hc
      rw [← hc]
      exact Array.mem_toList_iff.2 (Array.getElem_mem hlt)
  | succ fuel ih =>
    intro listed a w hcount inv hm0 hI
    by_cases hex : ∃ i, i < n ∧ listed.getD i false = false
    · obtain ⟨mm, hm, hml⟩ := hex
      have hsz : listed.size = ops.size := inv.size
      obtain ⟨i0, hi0, hl0, hmin⟩ := least_unlisted mm hm hml
      have hlsz : i0 < listed.size := by omega
      refine ⟨fun hr => ?_, fun i hi => ?_⟩
      · exfalso
        have : i0 ∈ Region.ready .any ops listed := by
          have ho : ops[i0]? = some (ops[i0]'(by omega)) := Array.getElem?_eq_getElem _
          exact mem_ready.2 ⟨getD_in hlsz hl0, _, ho, fun e he hb => hmin _ (backB_spec hback ho he hb)⟩
        rw [hr] at this
        cases this
      · obtain ⟨hun, o, ho, hdeps⟩ := mem_ready.1 hi
        have hlisted : listed.getD i false = false := getD_both hun
        have hio := (Array.getElem?_eq_some_iff.1 ho).1
        have hisz : i < listed.size := by omega
        have hin : i < n := by
          refine Classical.byContradiction fun hc => ?_
          exact waitB_spec hw listed inv i0 (by omega) (getD_in hlsz hl0) hm0 i (by omega) hi
        have him : m ≤ i := by
          refine Classical.byContradiction fun hc => ?_
          have := hm0 i (by omega)
          rw [hlisted] at this
          cases this
        have hwp := hstep i o (fun j => listed.getD j false) a w him hin ho hlisted (fun j hj => by
          obtain ⟨e, he, h1, h2⟩ := depsOf_spec hj
          rw [← h1]; exact hdeps e he h2) hm0 hI
        have hnext : ∀ a' w', Inv (fun j => decide (j = i) || listed.getD j false) a' w' → wpAnyIn (wideR N.ro) 0 P .any ops Q fuel (listed.setIfInBounds i true) a' w' := by
          intro a' w' hI'
          have hinv' : HeadInv .any ops n (listed.setIfInBounds i true) := by
            refine ⟨by simpa using hsz, fun t o' ho' ht e he hb => ?_, fun t ht ht' => ?_⟩
            · by_cases hj : e.on = i
              · rw [hj]; simp [hisz]
              · rw [getD_set_ne false (fun h => hj h.symm)]
                by_cases hti : t = i
                · subst hti
                  rw [ho] at ho'
                  obtain rfl := Option.some.inj ho'
                  exact hdeps e he hb
                · rw [getD_set_ne false (fun h => hti h.symm)] at ht
                  exact inv.closed t o' ho' ht e he hb
            · rw [getD_set_ne true (by omega)]
              exact inv.tail t ht ht'
          have hc' : (listed.setIfInBounds i true).toList.count false = fuel := by
            have : (listed.setIfInBounds i true).toList = listed.toList.set i true := by simp
            rw [this, List.count_set (by simpa using hisz)]
            simp [hisz] at hlisted
            simp [hlisted]
            simp at hcount
            omega
          have hm' : ∀ j, j < m → (listed.setIfInBounds i true).getD j false = true := by
            intro j hj
            rw [getD_set_ne false (by omega)]
            exact hm0 j hj
          have he : (fun j => (listed.setIfInBounds i true).getD j false) = fun j => decide (j = i) || listed.getD j false := by
            funext j
            by_cases hj : j = i
            · subst hj; simp [hisz]
            · rw [getD_set_ne false (fun h => hj h.symm), decide_eq_false hj, Bool.false_or]
          exact ih _ a' w' hc' hinv' hm' (by rw [he]; exact hI')
        unfold wpOpIn
        rw [ho]
        simp only
        unfold wpListIn at hwp
        split at hwp
        · rename_i hwant
          rw [if_pos hwant]
          refine Oper.wpIn_exits (fun e a w hne q => ?_) (Oper.wpIn_mono (fun a' w' hh => hnext a' w' hh) hwp)
          cases e <;> first | exact absurd rfl hne | exact q
        · rename_i hwant
          rw [if_neg hwant]
          exact ⟨fun _ _ => trivial, hnext _ _ hwp.2⟩
    · refine hdone _ listed a w (fun i hi => ?_) inv hcount hI
      cases hc : listed.getD i false with
      | true => rfl
      | false => exact absurd ⟨i, hi, hc⟩ hex
theorem DR.segX {m : Nat} (n : Nat) {fr : Fr} {w : World} (Inv : (Nat → Bool) → Act → World → Prop) (hc : (backB ops && Nat.ble m n && Nat.ble n ops.size && waitB ops m n) = true)
    (h0 : ∀ a, Has N fr a → Inv (fun j => decide (j < m)) a w)
    (hstep : ∀ (i : Nat) (o : Oper) (l : Nat → Bool) a w, m ≤ i → i < n → ops[i]? = some o → l i = false → (∀ j, depsOf o.after j = true → l j = true) → (∀ j, j < m → l j = true) → Inv l a w → wpListIn (wideR N.ro) 0 P ops (Exit.then (fun a' w' => Inv (fun j => decide (j = i) || l j) a' w') Q) [o] a w)
    (hfin : ∀ (l : Nat → Bool) a w, (∀ j, j < n → l j = true) → Inv l a w → wpAnyIn (wideR N.ro) 0 P .any ops Q (ops.size - n) (pre ops n) a w) : DR P N ops Q m fr w := by
  intro a Ha
  simp only [Bool.and_eq_true] at hc
  obtain ⟨⟨⟨h1, h2⟩, h3⟩, h4⟩ := hc
  have hm : m ≤ n := Nat.le_of_ble_eq_true h2
  have hn : n ≤ ops.size := Nat.le_of_ble_eq_true h3
  have hp := pre_inv (ops := ops) (n := m) (by omega) h1
  refine segX_any Inv h1 hn h4 hstep hfin (ops.size - m) (pre ops m) a w (pre_count (by omega)) ⟨hp.size, hp.closed, fun t ht ht' => hp.tail t (by omega) ht'⟩ (fun j hj => pre_lt hj _) ?_
  have he : (fun j => (pre ops m).getD j false) = fun j => decide (j < m) := by
    funext j
    by_cases hj : j < m
    · rw [pre_lt hj, decide_eq_true hj]
    · rw [pre_ge (by omega), decide_eq_false hj]
  rw [he]
  exact h0 a Ha
end
/-- what is known once the operations that `l` tells are done -/
def kfr (l : Nat → Bool) : List (Nat × Nat × Value) → Fr → Fr
  | [], r => r
  | x :: es, r => fit (l x.1) x.2.1 x.2.2 (kfr l es r)
theorem kfr_of {l : Nat → Bool} {r : Fr} {t : Nat} {v : Value} : ∀ {es : List (Nat × Nat × Value)}, (kfr l es r).get t = some v → (∃ x ∈ es, l x.1 = true ∧ x.2 = (t, v)) ∨ r.get t = some v
  | [], h => .inr h
  | x :: es, h => by
    simp only [kfr, fit_get] at h
    split at h
    · rename_i hx
      obtain ⟨i, u, c⟩ := x
      obtain ⟨rfl, hl⟩ := hx
      exact .inl ⟨_, List.mem_cons_self, hl, by simp only [Option.some.injEq] at h; rw [h]⟩
    · rcases kfr_of h with ⟨y, hy, h1, h2⟩ | h
      · exact .inl ⟨y, List.mem_cons_of_mem _ hy, h1, h2⟩
      · exact .inr h
theorem kfr_to {l : Nat → Bool} {r : Fr} {t : Nat} {v : Value} : ∀ {es : List (Nat × Nat × Value)}, (es.map (·.2.1)).Nodup → (∃ x ∈ es, l x.1 = true ∧ x.2 = (t, v)) → (kfr l es r).get t = some v
  | [], _, h => by obtain ⟨_, h, _⟩ := h; cases h
  | x :: es, hn, h => by
    obtain ⟨y, hy, h1, h2⟩ := h
    simp only [List.map_cons, List.nodup_cons] at hn
    simp only [kfr, fit_get]
    rcases List.mem_cons.1 hy with rfl | hy
    · rw [h2, if_pos ⟨rfl, h1⟩]
    · have : x.2.1 ≠ t := by
        intro hx
        exact hn.1 (List.mem_map.2 ⟨y, hy, by rw [h2, hx]⟩)
      rw [if_neg (by simp [this])]
      exact kfr_to hn.2 ⟨y, hy, h1, h2⟩
theorem kfr_base {l : Nat → Bool} {r : Fr} {t : Nat} {v : Value} : ∀ {es : List (Nat × Nat × Value)}, t ∉ es.map (·.2.1) → r.get t = some v → (kfr l es r).get t = some v
  | [], _, h => h
  | x :: es, hn, h => by
    simp only [List.map_cons, List.mem_cons, not_or] at hn
    simp only [kfr, fit_get]
    rw [if_neg (by rintro ⟨h, _⟩; exact hn.1 h.symm)]
    exact kfr_base hn.2 h
def ndB : List Nat → Bool
  | [] => true
  | x :: xs => !(xs.any (Nat.beq x)) && ndB xs
theorem ndB_spec : ∀ {xs : List Nat}, ndB xs = true → xs.Nodup
  | [], _ => List.nodup_nil
  | x :: xs, h => by
    simp only [ndB, Bool.and_eq_true, Bool.not_eq_true'] at h
    refine List.nodup_cons.2 ⟨fun hm => ?_, ndB_spec h.2⟩
    have : xs.any (Nat.beq x) = true := List.any_eq_true.2 ⟨x, hm, by simp⟩
    rw [this] at h
    exact absurd h.1 (by simp)
def keyB (es : List (Nat × Nat × Value)) (r : Fr) : Bool := ndB (es.map (·.2.1)) && ndB (es.map (·.1)) && es.all fun x => (r.map (·.1)).all fun t => !Nat.beq x.2.1 t
theorem get_key {r : Fr} {t : Nat} {v : Value} : r.get t = some v → t ∈ r.map (·.1) := by
  induction r with
  | nil => intro h; cases h
  | cons x r ih =>
    intro h
    obtain ⟨u, c⟩ := x
    rw [Fr.get_cons] at h
    split at h
    · rename_i e; simp [e]
    · simp [ih h]
theorem nodup_idx {α : Type} {f : α → Nat} {es : List α} (h : (es.map f).Nodup) {x y : α} (hx : x ∈ es) (hy : y ∈ es) (e : f x = f y) : x = y := by
  induction es with
  | nil => cases hx
  | cons z es ih =>
    simp only [List.map_cons, List.nodup_cons] at h
    rcases List.mem_cons.1 hx with rfl | hx'
    · rcases List.mem_cons.1 hy with rfl | hy'
      · rfl
      · exact absurd (List.mem_map.2 ⟨y, hy', e.symm⟩) h.1
    · rcases List.mem_cons.1 hy with rfl | hy'
      · exact absurd (List.mem_map.2 ⟨x, hx', e⟩) h.1
      · exact ih h.2 hx' hy'
/-- one more is done: it puts its value -/
theorem Has.kfr_put {N : Sz} {l : Nat → Bool} {es es' : List (Nat × Nat × Value)} {r : Fr} {a : Act} {i t : Nat} {v : Value} (H : Has N ((t, v) :: kfr l es r) a) (hl : l i = false) (hk : keyB es' r = true) (hm : (i, t, v) ∈ es')
    (hs : ∀ x ∈ es', l x.1 = true → x ∈ es) (hk0 : keyB es r = true) : Has N (kfr (fun j => decide (j = i) || l j) es' r) a := by
  simp only [keyB, Bool.and_eq_true] at hk hk0
  have n1 := ndB_spec hk.1.1
  have n2 := ndB_spec hk.1.2
  have n3 := ndB_spec hk0.1.1
  have d1 := fun x hx => List.all_eq_true.1 (List.all_eq_true.1 hk.2 x hx)
  have d3 := fun x hx => List.all_eq_true.1 (List.all_eq_true.1 hk0.2 x hx)
  refine ⟨H.size, H.defers, fun t' v' e => H.get _ _ ?_⟩
  rw [Fr.get_cons]
  rcases kfr_of e with ⟨x, hx, h1, h2⟩ | h
  · by_cases hi : x.1 = i
    · have := nodup_idx n2 hx hm hi
      subst this
      simp only [Prod.mk.injEq] at h2
      rw [if_pos h2.1, h2.2]
    · simp [hi] at h1
      have ht : t ≠ t' := by
        rintro rfl
        have : x = (i, t, v) := nodup_idx (f := fun x => x.2.1) n1 hx hm (by rw [h2])
        rw [this] at hi
        exact hi rfl
      rw [if_neg ht]
      exact kfr_to n3 ⟨x, hs x hx h1, h1, h2⟩
  · have ht : t ≠ t' := by
      rintro rfl
      have := d1 _ hm _ (get_key h)
      simp at this
    rw [if_neg ht]
    refine kfr_base (fun hc => ?_) h
    obtain ⟨y, hy, e⟩ := List.mem_map.1 hc
    have := d3 _ hy _ (get_key h)
    simp [e] at this
/-- one more is done: it puts nothing -/
theorem Has.kfr_skip {N : Sz} {l : Nat → Bool} {es : List (Nat × Nat × Value)} {r : Fr} {a : Act} {i : Nat} (H : Has N (kfr l es r) a) (hm : (es.map (·.1)).all (fun j => !Nat.beq j i) = true) : Has N (kfr (fun j => decide (j = i) || l j) es r) a := by
  have : ∀ {es : List (Nat × Nat × Value)}, (es.map (·.1)).all (fun j => !Nat.beq j i) = true → kfr (fun j => decide (j = i) || l j) es r = kfr l es r := by
    intro es
    induction es with
    | nil => intro _; rfl
    | cons x es ih =>
      intro h
      simp only [List.map_cons, List.all_cons, Bool.and_eq_true] at h
      have hx : x.1 ≠ i := by
        intro e
        rw [e] at h
        simp at h
      simp only [kfr, ih h.2, decide_eq_false hx, Bool.false_or]
  rw [this hm]
  exact H
theorem evB {l : Nat → Bool} {es : List (Nat × Nat × Value)} {r : Fr} {t : Nat} {v : Value} (h : (es.all fun x => !Nat.beq x.2.1 t) = true) (h2 : r.get t = some v) : (kfr l es r).ev (.tmp t) = some v :=
  kfr_base (fun hc => by
    obtain ⟨y, hy, e⟩ := List.mem_map.1 hc
    have := List.all_eq_true.1 h y hy
    simp [e] at this) h2
theorem evK {l : Nat → Bool} {es : List (Nat × Nat × Value)} {r : Fr} {i t : Nat} {v : Value} (k : Nat) (hl : l i = true) (hm : es[k]? = some (i, t, v)) (hk : ndB (es.map (·.2.1)) = true) : (kfr l es r).ev (.tmp t) = some v :=
  kfr_to (ndB_spec hk) ⟨_, List.mem_of_getElem? hm, hl, rfl⟩
theorem kfr_all {l : Nat → Bool} {r : Fr} {n : Nat} (hl : ∀ j, j < n → l j = true) : ∀ {es : List (Nat × Nat × Value)}, (es.all fun x => Nat.blt x.1 n) = true → kfr l es r = kfr (fun _ => true) es r
  | [], _ => rfl
  | x :: es, h => by
    simp only [List.all_cons, Bool.and_eq_true] at h
    simp only [kfr, kfr_all hl h.2, hl x.1 (Nat.lt_of_succ_le (Nat.le_of_ble_eq_true h.1))]
theorem kfr_low {l : Nat → Bool} {r : Fr} : ∀ {es : List (Nat × Nat × Value)}, (∀ x ∈ es, l x.1 = false) → kfr l es r = r
  | [], _ => rfl
  | x :: es, h => by
    simp only [kfr, kfr_low fun y hy => h y (List.mem_cons_of_mem _ hy), h x List.mem_cons_self]
    rfl
section
variable {P : Program} {N : Sz} {ops : Array Oper} {Q : Exit → Act → World → Prop}
/-- the same, with what is known and what is held told by a list -/
theorem DR.segK {X : Type} {m : Nat} (n : Nat) {fr : Fr} {w0 w : World} {L : List HP} (H : Own w0 w L) (x0 : X) (es : X → List (Nat × Nat × Value)) (mm : X → (Nat → Bool) → List HP → List HP) (C : (Nat → Bool) → Prop)
    (hc : (backB ops && Nat.ble m n && Nat.ble n ops.size && waitB ops m n) = true) (hr : ∀ x, ((es x).all fun y => Nat.ble m y.1 && Nat.blt y.1 n) = true)
    (h1 : ∀ x l, (∀ j, j < n → l j = true) → mm x l L = mm x (fun _ => true) L) (h2 : mm x0 (fun j => decide (j < m)) L = L) (h3 : C fun j => decide (j < m))
    (hstep : ∀ (i : Nat) (o : Oper) (l : Nat → Bool) x a w1, m ≤ i → i < n → ops[i]? = some o → l i = false → (∀ j, depsOf o.after j = true → l j = true) → C l → Has N (kfr l (es x) fr) a → Own w0 w1 (mm x l L) →
      wpListIn (wideR N.ro) 0 P ops (Exit.then (fun a' w' => C (fun j => decide (j = i) || l j) ∧ ∃ x', Has N (kfr (fun j => decide (j = i) || l j) (es x') fr) a' ∧ Own w0 w' (mm x' (fun j => decide (j = i) || l j) L)) Q) [o] a w1)
    (hfin : ∀ x w1, Own w0 w1 (mm x (fun _ => true) L) → DR P N ops Q n (kfr (fun _ => true) (es x) fr) w1) : DR P N ops Q m fr w := by
  refine DR.segX n (fun l a w1 => C l ∧ ∃ x, Has N (kfr l (es x) fr) a ∧ Own w0 w1 (mm x l L)) hc (fun a Ha => ⟨h3, x0, ?_, ?_⟩) ?_ ?_
  · rw [kfr_low]
    · exact Ha
    · intro y hy
      have := List.all_eq_true.1 (hr x0) y hy
      simp only [Bool.and_eq_true] at this
      have := Nat.le_of_ble_eq_true this.1
      exact decide_eq_false (by omega)
  · rw [h2]; exact H
  · intro i o l a w1 hm hn ho hl hd _ ⟨hC, x, Ha, H⟩
    exact hstep i o l x a w1 hm hn ho hl hd hC Ha H
  · intro l a w1 hl ⟨_, x, Ha, H⟩
    rw [h1 x l hl] at H
    rw [kfr_all hl (by
      refine List.all_eq_true.2 fun y hy => ?_
      have := List.all_eq_true.1 (hr x) y hy
      simp only [Bool.and_eq_true] at this
      exact this.2)] at Ha
    exact hfin x w1 H a Ha
end
/-- what is done only after another is -/
def CL (A : List (Nat × Nat)) (l : Nat → Bool) : Prop := ∀ p ∈ A, l p.1 = true → l p.2 = true
theorem CL.step {A : List (Nat × Nat)} {l : Nat → Bool} {i : Nat} (h : CL A l) (hi : ∀ p ∈ A, p.1 = i → l p.2 = true) : CL A (fun j => decide (j = i) || l j) := by
  intro p hp hl
  by_cases e : p.1 = i
  · simp [hi p hp e]
  · simp [e] at hl
    simp [h p hp hl]
theorem CL.no {A : List (Nat × Nat)} {l : Nat → Bool} {i j : Nat} (h : CL A l) (hm : (j, i) ∈ A) (hi : l i = false) : l j = false := by
  cases e : l j with
  | false => rfl
  | true =>
    have := h _ hm e
    simp only [hi] at this
    cases this
end Go.J

namespace Go.J
open Go.RowKit Go.Proofs
set_option maxRecDepth 8000
set_option linter.unusedSimpArgs false
set_option linter.unusedVariables false
/-! drift: the first examples -/
theorem eqPush (p q : Push) : EqAt2 Try.prog .eql 54 p.ev q.ev (.bool (decide (p = q))) :=
  ⟨fun x y w => run_eqGuard_agg w .eql 54 x y _ _ (by kernel_rfl), fun w => by
    have h := equal_push0 p.Low.X p.Low.Y p.High.X p.High.Y q.Low.X q.Low.Y q.High.X q.High.Y w
    unfold Op.equal Op.maxDepth at h
    unfold Push.ev
    rw [run_eql_struct, h]
    rw [show (decide (p = q)) = decide ((p.Low.X = q.Low.X ∧ p.Low.Y = q.Low.Y) ∧ p.High.X = q.High.X ∧ p.High.Y = q.High.Y) by obtain ⟨⟨_, _⟩, _, _⟩ := p; obtain ⟨⟨_, _⟩, _, _⟩ := q; simp]
    rfl⟩
theorem bay_push (v : Value) : pushAllR bayG (bayC v) (bayW v) bayD ⟨1, 1⟩ 0 0 1000 = (⟨⟨100, 50⟩, ⟨100, 100⟩⟩, 0) := by kernel_rfl
theorem bay_step (v : Value) : stepAllR bayG (bayC v) (bayW v) bayD ⟨0, oneR 1 1, [], [], false⟩ 1000 = (⟨1000, [⟨1, 2, 3⟩, ⟨2, 2, 3⟩], [], [], false⟩, 0) := by kernel_rfl
theorem nilSlR (w : World) : SlR w (.slice none 0 0) [] := ⟨by simp, none, 0, rfl, .inl rfl⟩
theorem bay_small : bayG.ok = true → bayG.W * bayG.H ≤ 4096 := fun _ => by decide
structure X60 where
  oa : Option Addr
  oc : Nat
  ra : Option Addr
  rc : Nat
  sa : Option Addr
  sc : Nat
  ta : Option Addr
  tc : Nat
  p4 : Nat
theorem alive60_c (w : World) : Pur Try.prog 60 #[] w (.bool true) := by
  refine pur_J (args := []) Try.func60 rfl Try.ntmps60 rfl ?_
  have H := Own.start w
  ((repeat refine JC.seq ?_); refine JC.region ?_)
  refine JL.pure rfl rfl ?_
  refine JL.nil ?_
  ((repeat refine Ex.normal_block ?_); refine Ex.next ?_)
  ((repeat refine JC.seq ?_); refine JC.region ?_)
  refine JL.call fb115 rfl rfl (bay_c _) ?_
  rintro _ w1 ⟨lv, av, f1, f2, rfl, K⟩
  obtain ⟨la, lc, rfl⟩ := K.row_slice (j := 3) rfl
  have H := H.join K
  refine ⟨_, rfl, ?_⟩
  refine JL.alloc H z88 rfl ?_
  intro b1 w2 H
  refine JL.storeB 0 H rfl rfl sh88 rfl rfl rfl rfl rfl ?_
  intro w3 H
  refine JL.nil ?_
  ((repeat refine Ex.normal_block ?_); refine Ex.next ?_)
  ((repeat refine JC.seq ?_); refine JC.region ?_)
  refine JL.fieldAddr rfl Try.underlying88 rfl sh52 rfl ?_
  refine JL.loadB 0 H rfl sh52 rfl rfl rfl ?_
  refine JL.fieldAddr rfl Try.underlying88 rfl sh84 rfl ?_
  refine JL.loadB 0 H rfl sh84 rfl rfl rfl ?_
  refine JL.fieldAddr rfl Try.underlying88 rfl sh86 rfl ?_
  refine JL.loadB 0 H rfl sh86 rfl rfl rfl ?_
  refine JL.build s62 rfl rfl ?_
  obtain ⟨hl, hcl, hc, hw⟩ := bay_facts H 1 2 3 4 rfl rfl rfl rfl
  refine JL.callP H fb116 rfl rfl (push116_c bayG _ _ _ (bayC av) (bayW av) bayD ⟨1, 1⟩ 0 0 1000 _ hl hc hw) ?_
  intro w4 H _
  rw [bay_push]
  refine JL.pure rfl rfl ?_
  refine JL.pure rfl rfl ?_
  refine JL.pure rfl rfl ?_
  refine JL.alloc H z54 rfl ?_
  intro b2 w5 H
  refine JL.storeB 0 H rfl rfl sh54 rfl rfl rfl rfl rfl ?_
  intro w6 H
  refine JL.pure rfl rfl ?_
  refine JL.nil ?_
  ((repeat refine Ex.normal_block ?_); refine Ex.next ?_)
  ((repeat refine JC.seq ?_); refine JC.drawS H mixed ?_)
  intro w7 H
  refine DR.segK 15 H (⟨none, 0, none, 0, none, 0, none, 0, 0⟩ : X60) (fun x : X60 => [(0, 20, .pointer (some ⟨b1, 0, none⟩)), (1, 21, bayG.ev (.slice la bayG.land.length lc)), (2, 22, .pointer (some ⟨b1, 4, none⟩)), (3, 23, .agg ⟨[.slice (some ⟨f1, 0, none⟩) 1 1, .slice (some ⟨f2, 0, none⟩) 1 1]⟩), (4, 24, .pointer (some ⟨b1, 6, none⟩)), (5, 25, .agg ⟨[.int .i64 20, .int .i64 20, .int .i64 10, .int .i64 20, .bool false]⟩), (6, 26, .slice x.oa (oneR 1 1).length x.oc), (7, 27, .agg ⟨[.int .i64 0, .slice x.oa (oneR 1 1).length x.oc, .slice none 0 0, .slice none 0 0, .bool false]⟩), (8, 28, .tuple #[.agg ⟨[.int .i64 1000, .slice x.ra 2 x.rc, .slice x.sa 0 x.sc, .slice x.ta 0 x.tc, .bool false]⟩, .int .i64 0]), (9, 19, .tuple #[.agg ⟨[.int .i64 1000, .slice x.ra 2 x.rc, .slice x.sa 0 x.sc, .slice x.ta 0 x.tc, .bool false]⟩, .int .i64 0]), (10, 29, .agg ⟨[.int .i64 1000, .slice x.ra 2 x.rc, .slice x.sa 0 x.sc, .slice x.ta 0 x.tc, .bool false]⟩), (11, 30, .int .i64 0), (12, 4, .pointer (some ⟨x.p4, 0, none⟩)), (14, 5, .int .i64 0)]) (fun x l L => mit (l 12) (blk x.p4 (.cells ⟨if l 13 = true then [.int .i64 1000, .slice x.ra 2 x.rc, .slice x.sa 0 x.sc, .slice x.ta 0 x.tc, .bool false] else [.int .i64 0, .slice none 0 0, .slice none 0 0, .slice none 0 0, .bool false]⟩ 90 (0, 0))) (mit (l 8) (runRow (.slice x.ra 2 x.rc) [⟨1, 2, 3⟩, ⟨2, 2, 3⟩]) (mit (l 8) (runRow (.slice x.sa 0 x.sc) []) (mit (l 8) (runRow (.slice x.ta 0 x.tc) []) (mit (l 6) (runRow (.slice x.oa (oneR 1 1).length x.oc) (oneR 1 1)) L))))) (CL [(7, 6), (8, 7), (9, 8), (10, 9), (13, 12), (13, 10), (8, 1), (8, 3), (8, 5)]) (by kernel_rfl) (fun _ => rfl) (fun x l hl => by simp only [hl 6 (by decide), hl 8 (by decide), hl 12 (by decide), hl 13 (by decide)]) rfl (by intro p _ h; cases h) ?_ ?_
  · intro i o l9 x a9 w9 _ hlt ho hl9 hd9 hC Ha H
    rcases (show i = 0 ∨ i = 1 ∨ i = 2 ∨ i = 3 ∨ i = 4 ∨ i = 5 ∨ i = 6 ∨ i = 7 ∨ i = 8 ∨ i = 9 ∨ i = 10 ∨ i = 11 ∨ i = 12 ∨ i = 13 ∨ i = 14 by omega) with rfl | rfl | rfl | rfl | rfl | rfl | rfl | rfl | rfl | rfl | rfl | rfl | rfl | rfl | rfl
    · obtain rfl := Option.some.inj ho
      refine (JL.fieldAddr (β := b1) (off := 0) (evB rfl rfl) Try.underlying88 rfl sh52 rfl (JL.nil fun a' Ha9 => ?_)) a9 Ha
      exact ⟨hC.step (fun p hp h => by simp at hp; rcases hp with rfl | rfl | rfl | rfl | rfl | rfl | rfl | rfl | rfl <;> first | exact absurd h (by decide) | exact hd9 _ rfl), x, Ha9.kfr_put hl9 rfl (by simp) (fun _ h _ => h) rfl, H⟩
    · obtain rfl := Option.some.inj ho
      refine (JL.load (β := b1) (off := 0) (v := bayG.ev (.slice la bayG.land.length lc)) (evK 0 (hd9 0 rfl) rfl rfl) sh52 (LdAt.of_block (Own.get (i := 1) H.unmit.unmit.unmit.unmit.unmit rfl).2 rfl) rfl (JL.nil fun a' Ha9 => ?_)) a9 Ha
      exact ⟨hC.step (fun p hp h => by simp at hp; rcases hp with rfl | rfl | rfl | rfl | rfl | rfl | rfl | rfl | rfl <;> first | exact absurd h (by decide) | exact hd9 _ rfl), x, Ha9.kfr_put hl9 rfl (by simp) (fun _ h _ => h) rfl, H⟩
    · obtain rfl := Option.some.inj ho
      refine (JL.fieldAddr (β := b1) (off := 0) (evB rfl rfl) Try.underlying88 rfl sh84 rfl (JL.nil fun a' Ha9 => ?_)) a9 Ha
      exact ⟨hC.step (fun p hp h => by simp at hp; rcases hp with rfl | rfl | rfl | rfl | rfl | rfl | rfl | rfl | rfl <;> first | exact absurd h (by decide) | exact hd9 _ rfl), x, Ha9.kfr_put hl9 rfl (by simp) (fun _ h _ => h) rfl, H⟩
    · obtain rfl := Option.some.inj ho
      refine (JL.load (β := b1) (off := 4) (v := .agg ⟨[.slice (some ⟨f1, 0, none⟩) 1 1, .slice (some ⟨f2, 0, none⟩) 1 1]⟩) (evK 2 (hd9 2 rfl) rfl rfl) sh84 (LdAt.of_block (Own.get (i := 1) H.unmit.unmit.unmit.unmit.unmit rfl).2 rfl) rfl (JL.nil fun a' Ha9 => ?_)) a9 Ha
      exact ⟨hC.step (fun p hp h => by simp at hp; rcases hp with rfl | rfl | rfl | rfl | rfl | rfl | rfl | rfl | rfl <;> first | exact absurd h (by decide) | exact hd9 _ rfl), x, Ha9.kfr_put hl9 rfl (by simp) (fun _ h _ => h) rfl, H⟩
    · obtain rfl := Option.some.inj ho
      refine (JL.fieldAddr (β := b1) (off := 0) (evB rfl rfl) Try.underlying88 rfl sh86 rfl (JL.nil fun a' Ha9 => ?_)) a9 Ha
      exact ⟨hC.step (fun p hp h => by simp at hp; rcases hp with rfl | rfl | rfl | rfl | rfl | rfl | rfl | rfl | rfl <;> first | exact absurd h (by decide) | exact hd9 _ rfl), x, Ha9.kfr_put hl9 rfl (by simp) (fun _ h _ => h) rfl, H⟩
    · obtain rfl := Option.some.inj ho
      refine (JL.load (β := b1) (off := 6) (v := .agg ⟨[.int .i64 20, .int .i64 20, .int .i64 10, .int .i64 20, .bool false]⟩) (evK 4 (hd9 4 rfl) rfl rfl) sh86 (LdAt.of_block (Own.get (i := 1) H.unmit.unmit.unmit.unmit.unmit rfl).2 rfl) rfl (JL.nil fun a' Ha9 => ?_)) a9 Ha
      exact ⟨hC.step (fun p hp h => by simp at hp; rcases hp with rfl | rfl | rfl | rfl | rfl | rfl | rfl | rfl | rfl <;> first | exact absurd h (by decide) | exact hd9 _ rfl), x, Ha9.kfr_put hl9 rfl (by simp) (fun _ h _ => h) rfl, H⟩
    · obtain rfl := Option.some.inj ho
      have e7 := hC.no (j := 7) (by simp) hl9
      have e8 := hC.no (j := 8) (by simp) e7
      refine (JL.call fb65 rfl rfl (at65_c 1 1 w9) ?_) a9 Ha
      rintro _ w10 ⟨x', rfl, K⟩
      obtain ⟨oa, oc, rfl⟩ := K.row_slice (j := 0) rfl
      have H := H.join K
      refine ⟨_, rfl, JL.nil fun a' Ha9 => ?_⟩
      refine ⟨hC.step (fun p hp h => by simp at hp; rcases hp with rfl | rfl | rfl | rfl | rfl | rfl | rfl | rfl | rfl <;> first | exact absurd h (by decide) | exact hd9 _ rfl), {x with oa := oa, oc := oc}, Ha9.kfr_put hl9 rfl (by simp) ?_ rfl, ?_⟩
      · intro y hy hl
        simp at hy
        rcases hy with rfl | rfl | rfl | rfl | rfl | rfl | rfl | rfl | rfl | rfl | rfl | rfl | rfl | rfl <;> first | (simp [hl9, e7] at hl; done) | simp
      · simp [hl9, e8, mit_true, mit_false] at H ⊢; exact H.perm mit_perm.symm
    · obtain rfl := Option.some.inj ho
      have e26 : ∀ r : Fr, (kfr l9 [(0, 20, .pointer (some ⟨b1, 0, none⟩)), (1, 21, bayG.ev (.slice la bayG.land.length lc)), (2, 22, .pointer (some ⟨b1, 4, none⟩)), (3, 23, .agg ⟨[.slice (some ⟨f1, 0, none⟩) 1 1, .slice (some ⟨f2, 0, none⟩) 1 1]⟩), (4, 24, .pointer (some ⟨b1, 6, none⟩)), (5, 25, .agg ⟨[.int .i64 20, .int .i64 20, .int .i64 10, .int .i64 20, .bool false]⟩), (6, 26, .slice x.oa (oneR 1 1).length x.oc), (7, 27, .agg ⟨[.int .i64 0, .slice x.oa (oneR 1 1).length x.oc, .slice none 0 0, .slice none 0 0, .bool false]⟩), (8, 28, .tuple #[.agg ⟨[.int .i64 1000, .slice x.ra 2 x.rc, .slice x.sa 0 x.sc, .slice x.ta 0 x.tc, .bool false]⟩, .int .i64 0]), (9, 19, .tuple #[.agg ⟨[.int .i64 1000, .slice x.ra 2 x.rc, .slice x.sa 0 x.sc, .slice x.ta 0 x.tc, .bool false]⟩, .int .i64 0]), (10, 29, .agg ⟨[.int .i64 1000, .slice x.ra 2 x.rc, .slice x.sa 0 x.sc, .slice x.ta 0 x.tc, .bool false]⟩), (11, 30, .int .i64 0), (12, 4, .pointer (some ⟨x.p4, 0, none⟩)), (14, 5, .int .i64 0)] r).ev (.tmp 26) = some (.slice x.oa (oneR 1 1).length x.oc) := fun r => (evK 6 (hd9 6 rfl) rfl rfl)
      refine (JL.build (cs := [.int .i64 0, .slice x.oa (oneR 1 1).length x.oc, .slice none 0 0, .slice none 0 0, .bool false]) s90 (by simp only [fillK, e26]; rfl) rfl (JL.nil fun a' Ha9 => ?_)) a9 Ha
      exact ⟨hC.step (fun p hp h => by simp at hp; rcases hp with rfl | rfl | rfl | rfl | rfl | rfl | rfl | rfl | rfl <;> first | exact absurd h (by decide) | exact hd9 _ rfl), x, Ha9.kfr_put hl9 rfl (by simp) (fun _ h _ => h) rfl, H⟩
    · obtain rfl := Option.some.inj ho
      have e9 := hC.no (j := 9) (by simp) hl9
      have e10 := hC.no (j := 10) (by simp) e9
      have e13 := hC.no (j := 13) (by simp) e10
      have q6 : l9 6 = true := hC (7, 6) (by simp) (hd9 7 rfl)
      have H1 := H.unmit
      simp only [hl9, q6, mit_true, mit_false] at H1
      obtain ⟨hl, hcl, hc, hw⟩ := bay_facts H1 3 4 5 6 rfl rfl rfl rfl
      have hco := H1.rowCap (j := 0) rfl
      have e21 : ∀ r : Fr, (kfr l9 [(0, 20, .pointer (some ⟨b1, 0, none⟩)), (1, 21, bayG.ev (.slice la bayG.land.length lc)), (2, 22, .pointer (some ⟨b1, 4, none⟩)), (3, 23, .agg ⟨[.slice (some ⟨f1, 0, none⟩) 1 1, .slice (some ⟨f2, 0, none⟩) 1 1]⟩), (4, 24, .pointer (some ⟨b1, 6, none⟩)), (5, 25, .agg ⟨[.int .i64 20, .int .i64 20, .int .i64 10, .int .i64 20, .bool false]⟩), (6, 26, .slice x.oa (oneR 1 1).length x.oc), (7, 27, .agg ⟨[.int .i64 0, .slice x.oa (oneR 1 1).length x.oc, .slice none 0 0, .slice none 0 0, .bool false]⟩), (8, 28, .tuple #[.agg ⟨[.int .i64 1000, .slice x.ra 2 x.rc, .slice x.sa 0 x.sc, .slice x.ta 0 x.tc, .bool false]⟩, .int .i64 0]), (9, 19, .tuple #[.agg ⟨[.int .i64 1000, .slice x.ra 2 x.rc, .slice x.sa 0 x.sc, .slice x.ta 0 x.tc, .bool false]⟩, .int .i64 0]), (10, 29, .agg ⟨[.int .i64 1000, .slice x.ra 2 x.rc, .slice x.sa 0 x.sc, .slice x.ta 0 x.tc, .bool false]⟩), (11, 30, .int .i64 0), (12, 4, .pointer (some ⟨x.p4, 0, none⟩)), (14, 5, .int .i64 0)] r).ev (.tmp 21) = some (bayG.ev (.slice la bayG.land.length lc)) := fun r => evK 1 (hd9 1 rfl) rfl rfl
      have e23 : ∀ r : Fr, (kfr l9 [(0, 20, .pointer (some ⟨b1, 0, none⟩)), (1, 21, bayG.ev (.slice la bayG.land.length lc)), (2, 22, .pointer (some ⟨b1, 4, none⟩)), (3, 23, .agg ⟨[.slice (some ⟨f1, 0, none⟩) 1 1, .slice (some ⟨f2, 0, none⟩) 1 1]⟩), (4, 24, .pointer (some ⟨b1, 6, none⟩)), (5, 25, .agg ⟨[.int .i64 20, .int .i64 20, .int .i64 10, .int .i64 20, .bool false]⟩), (6, 26, .slice x.oa (oneR 1 1).length x.oc), (7, 27, .agg ⟨[.int .i64 0, .slice x.oa (oneR 1 1).length x.oc, .slice none 0 0, .slice none 0 0, .bool false]⟩), (8, 28, .tuple #[.agg ⟨[.int .i64 1000, .slice x.ra 2 x.rc, .slice x.sa 0 x.sc, .slice x.ta 0 x.tc, .bool false]⟩, .int .i64 0]), (9, 19, .tuple #[.agg ⟨[.int .i64 1000, .slice x.ra 2 x.rc, .slice x.sa 0 x.sc, .slice x.ta 0 x.tc, .bool false]⟩, .int .i64 0]), (10, 29, .agg ⟨[.int .i64 1000, .slice x.ra 2 x.rc, .slice x.sa 0 x.sc, .slice x.ta 0 x.tc, .bool false]⟩), (11, 30, .int .i64 0), (12, 4, .pointer (some ⟨x.p4, 0, none⟩)), (14, 5, .int .i64 0)] r).ev (.tmp 23) = some (.agg ⟨[.slice (some ⟨f1, 0, none⟩) 1 1, .slice (some ⟨f2, 0, none⟩) 1 1]⟩) := fun r => evK 3 (hd9 3 rfl) rfl rfl
      have e25 : ∀ r : Fr, (kfr l9 [(0, 20, .pointer (some ⟨b1, 0, none⟩)), (1, 21, bayG.ev (.slice la bayG.land.length lc)), (2, 22, .pointer (some ⟨b1, 4, none⟩)), (3, 23, .agg ⟨[.slice (some ⟨f1, 0, none⟩) 1 1, .slice (some ⟨f2, 0, none⟩) 1 1]⟩), (4, 24, .pointer (some ⟨b1, 6, none⟩)), (5, 25, .agg ⟨[.int .i64 20, .int .i64 20, .int .i64 10, .int .i64 20, .bool false]⟩), (6, 26, .slice x.oa (oneR 1 1).length x.oc), (7, 27, .agg ⟨[.int .i64 0, .slice x.oa (oneR 1 1).length x.oc, .slice none 0 0, .slice none 0 0, .bool false]⟩), (8, 28, .tuple #[.agg ⟨[.int .i64 1000, .slice x.ra 2 x.rc, .slice x.sa 0 x.sc, .slice x.ta 0 x.tc, .bool false]⟩, .int .i64 0]), (9, 19, .tuple #[.agg ⟨[.int .i64 1000, .slice x.ra 2 x.rc, .slice x.sa 0 x.sc, .slice x.ta 0 x.tc, .bool false]⟩, .int .i64 0]), (10, 29, .agg ⟨[.int .i64 1000, .slice x.ra 2 x.rc, .slice x.sa 0 x.sc, .slice x.ta 0 x.tc, .bool false]⟩), (11, 30, .int .i64 0), (12, 4, .pointer (some ⟨x.p4, 0, none⟩)), (14, 5, .int .i64 0)] r).ev (.tmp 25) = some (.agg ⟨[.int .i64 20, .int .i64 20, .int .i64 10, .int .i64 20, .bool false]⟩) := fun r => evK 5 (hd9 5 rfl) rfl rfl
      have e27 : ∀ r : Fr, (kfr l9 [(0, 20, .pointer (some ⟨b1, 0, none⟩)), (1, 21, bayG.ev (.slice la bayG.land.length lc)), (2, 22, .pointer (some ⟨b1, 4, none⟩)), (3, 23, .agg ⟨[.slice (some ⟨f1, 0, none⟩) 1 1, .slice (some ⟨f2, 0, none⟩) 1 1]⟩), (4, 24, .pointer (some ⟨b1, 6, none⟩)), (5, 25, .agg ⟨[.int .i64 20, .int .i64 20, .int .i64 10, .int .i64 20, .bool false]⟩), (6, 26, .slice x.oa (oneR 1 1).length x.oc), (7, 27, .agg ⟨[.int .i64 0, .slice x.oa (oneR 1 1).length x.oc, .slice none 0 0, .slice none 0 0, .bool false]⟩), (8, 28, .tuple #[.agg ⟨[.int .i64 1000, .slice x.ra 2 x.rc, .slice x.sa 0 x.sc, .slice x.ta 0 x.tc, .bool false]⟩, .int .i64 0]), (9, 19, .tuple #[.agg ⟨[.int .i64 1000, .slice x.ra 2 x.rc, .slice x.sa 0 x.sc, .slice x.ta 0 x.tc, .bool false]⟩, .int .i64 0]), (10, 29, .agg ⟨[.int .i64 1000, .slice x.ra 2 x.rc, .slice x.sa 0 x.sc, .slice x.ta 0 x.tc, .bool false]⟩), (11, 30, .int .i64 0), (12, 4, .pointer (some ⟨x.p4, 0, none⟩)), (14, 5, .int .i64 0)] r).ev (.tmp 27) = some (.agg ⟨[.int .i64 0, .slice x.oa (oneR 1 1).length x.oc, .slice none 0 0, .slice none 0 0, .bool false]⟩) := fun r => evK 7 (hd9 7 rfl) rfl rfl
      refine (JL.call fb64 (vs := [bayG.ev (.slice la bayG.land.length lc), .agg ⟨[.slice (some ⟨f1, 0, none⟩) 1 1, .slice (some ⟨f2, 0, none⟩) 1 1]⟩, .agg ⟨[.int .i64 20, .int .i64 20, .int .i64 10, .int .i64 20, .bool false]⟩, .agg ⟨[.int .i64 0, .slice x.oa (oneR 1 1).length x.oc, .slice none 0 0, .slice none 0 0, .bool false]⟩, .int .i64 1000]) (by simp only [Fr.evs, Fr.evK, e21, e23, e25, e27]; rfl) rfl (step64_c bayG _ _ _ (bayC av) (bayW av) bayD 0 _ _ _ (oneR 1 1) [] [] false 1000 _ hl hcl hc hw (runSl H1 (j := 0) rfl (by simp [oneR])) (nilSlR _) (nilSlR _) hco (Nat.le_refl _) (Nat.le_refl _) bay_small) ?_) a9 Ha
      rw [bay_step]
      rintro _ w10 ⟨va, vb, vc, rfl, K⟩
      obtain ⟨ua, xa, rfl⟩ := K.row_slice (j := 0) rfl
      obtain ⟨ub, xb, rfl⟩ := K.row_slice (j := 1) rfl
      obtain ⟨uc, xc, rfl⟩ := K.row_slice (j := 2) rfl
      have H := H.join K
      refine ⟨_, rfl, JL.nil fun a' Ha9 => ?_⟩
      refine ⟨hC.step (fun p hp h => by simp at hp; rcases hp with rfl | rfl | rfl | rfl | rfl | rfl | rfl | rfl | rfl <;> first | exact absurd h (by decide) | exact hd9 _ rfl), {x with ra := ua, rc := xa, sa := ub, sc := xb, ta := uc, tc := xc}, Ha9.kfr_put hl9 rfl (by simp) ?_ rfl, ?_⟩
      · intro y hy hl
        simp at hy
        rcases hy with rfl | rfl | rfl | rfl | rfl | rfl | rfl | rfl | rfl | rfl | rfl | rfl | rfl | rfl <;> first | (simp [hl9, e9, e10] at hl; done) | simp
      · simp [hl9, q6, e13, mit_true, mit_false] at H ⊢
        exact H.perm (((((mit_perm.trans ((mit_perm.trans (mit_perm.cons _)).cons _))).symm)))
    · obtain rfl := Option.some.inj ho
      have e28 : ∀ r : Fr, (kfr l9 [(0, 20, .pointer (some ⟨b1, 0, none⟩)), (1, 21, bayG.ev (.slice la bayG.land.length lc)), (2, 22, .pointer (some ⟨b1, 4, none⟩)), (3, 23, .agg ⟨[.slice (some ⟨f1, 0, none⟩) 1 1, .slice (some ⟨f2, 0, none⟩) 1 1]⟩), (4, 24, .pointer (some ⟨b1, 6, none⟩)), (5, 25, .agg ⟨[.int .i64 20, .int .i64 20, .int .i64 10, .int .i64 20, .bool false]⟩), (6, 26, .slice x.oa (oneR 1 1).length x.oc), (7, 27, .agg ⟨[.int .i64 0, .slice x.oa (oneR 1 1).length x.oc, .slice none 0 0, .slice none 0 0, .bool false]⟩), (8, 28, .tuple #[.agg ⟨[.int .i64 1000, .slice x.ra 2 x.rc, .slice x.sa 0 x.sc, .slice x.ta 0 x.tc, .bool false]⟩, .int .i64 0]), (9, 19, .tuple #[.agg ⟨[.int .i64 1000, .slice x.ra 2 x.rc, .slice x.sa 0 x.sc, .slice x.ta 0 x.tc, .bool false]⟩, .int .i64 0]), (10, 29, .agg ⟨[.int .i64 1000, .slice x.ra 2 x.rc, .slice x.sa 0 x.sc, .slice x.ta 0 x.tc, .bool false]⟩), (11, 30, .int .i64 0), (12, 4, .pointer (some ⟨x.p4, 0, none⟩)), (14, 5, .int .i64 0)] r).ev (.tmp 28) = some (.tuple #[.agg ⟨[.int .i64 1000, .slice x.ra 2 x.rc, .slice x.sa 0 x.sc, .slice x.ta 0 x.tc, .bool false]⟩, .int .i64 0]) := fun r => (evK 8 (hd9 8 rfl) rfl rfl)
      refine (JL.pure (v := .tuple #[.agg ⟨[.int .i64 1000, .slice x.ra 2 x.rc, .slice x.sa 0 x.sc, .slice x.ta 0 x.tc, .bool false]⟩, .int .i64 0]) (by simp only [pureOp, e28]) rfl (JL.nil fun a' Ha9 => ?_)) a9 Ha
      exact ⟨hC.step (fun p hp h => by simp at hp; rcases hp with rfl | rfl | rfl | rfl | rfl | rfl | rfl | rfl | rfl <;> first | exact absurd h (by decide) | exact hd9 _ rfl), x, Ha9.kfr_put hl9 rfl (by simp) (fun _ h _ => h) rfl, H⟩
    · obtain rfl := Option.some.inj ho
      have e19 : ∀ r : Fr, (kfr l9 [(0, 20, .pointer (some ⟨b1, 0, none⟩)), (1, 21, bayG.ev (.slice la bayG.land.length lc)), (2, 22, .pointer (some ⟨b1, 4, none⟩)), (3, 23, .agg ⟨[.slice (some ⟨f1, 0, none⟩) 1 1, .slice (some ⟨f2, 0, none⟩) 1 1]⟩), (4, 24, .pointer (some ⟨b1, 6, none⟩)), (5, 25, .agg ⟨[.int .i64 20, .int .i64 20, .int .i64 10, .int .i64 20, .bool false]⟩), (6, 26, .slice x.oa (oneR 1 1).length x.oc), (7, 27, .agg ⟨[.int .i64 0, .slice x.oa (oneR 1 1).length x.oc, .slice none 0 0, .slice none 0 0, .bool false]⟩), (8, 28, .tuple #[.agg ⟨[.int .i64 1000, .slice x.ra 2 x.rc, .slice x.sa 0 x.sc, .slice x.ta 0 x.tc, .bool false]⟩, .int .i64 0]), (9, 19, .tuple #[.agg ⟨[.int .i64 1000, .slice x.ra 2 x.rc, .slice x.sa 0 x.sc, .slice x.ta 0 x.tc, .bool false]⟩, .int .i64 0]), (10, 29, .agg ⟨[.int .i64 1000, .slice x.ra 2 x.rc, .slice x.sa 0 x.sc, .slice x.ta 0 x.tc, .bool false]⟩), (11, 30, .int .i64 0), (12, 4, .pointer (some ⟨x.p4, 0, none⟩)), (14, 5, .int .i64 0)] r).ev (.tmp 19) = some (.tuple #[.agg ⟨[.int .i64 1000, .slice x.ra 2 x.rc, .slice x.sa 0 x.sc, .slice x.ta 0 x.tc, .bool false]⟩, .int .i64 0]) := fun r => (evK 9 (hd9 9 rfl) rfl rfl)
      refine (JL.pure (v := .agg ⟨[.int .i64 1000, .slice x.ra 2 x.rc, .slice x.sa 0 x.sc, .slice x.ta 0 x.tc, .bool false]⟩) (by simp only [pureOp, e19]; rfl) rfl (JL.nil fun a' Ha9 => ?_)) a9 Ha
      exact ⟨hC.step (fun p hp h => by simp at hp; rcases hp with rfl | rfl | rfl | rfl | rfl | rfl | rfl | rfl | rfl <;> first | exact absurd h (by decide) | exact hd9 _ rfl), x, Ha9.kfr_put hl9 rfl (by simp) (fun _ h _ => h) rfl, H⟩
    · obtain rfl := Option.some.inj ho
      have e19 : ∀ r : Fr, (kfr l9 [(0, 20, .pointer (some ⟨b1, 0, none⟩)), (1, 21, bayG.ev (.slice la bayG.land.length lc)), (2, 22, .pointer (some ⟨b1, 4, none⟩)), (3, 23, .agg ⟨[.slice (some ⟨f1, 0, none⟩) 1 1, .slice (some ⟨f2, 0, none⟩) 1 1]⟩), (4, 24, .pointer (some ⟨b1, 6, none⟩)), (5, 25, .agg ⟨[.int .i64 20, .int .i64 20, .int .i64 10, .int .i64 20, .bool false]⟩), (6, 26, .slice x.oa (oneR 1 1).length x.oc), (7, 27, .agg ⟨[.int .i64 0, .slice x.oa (oneR 1 1).length x.oc, .slice none 0 0, .slice none 0 0, .bool false]⟩), (8, 28, .tuple #[.agg ⟨[.int .i64 1000, .slice x.ra 2 x.rc, .slice x.sa 0 x.sc, .slice x.ta 0 x.tc, .bool false]⟩, .int .i64 0]), (9, 19, .tuple #[.agg ⟨[.int .i64 1000, .slice x.ra 2 x.rc, .slice x.sa 0 x.sc, .slice x.ta 0 x.tc, .bool false]⟩, .int .i64 0]), (10, 29, .agg ⟨[.int .i64 1000, .slice x.ra 2 x.rc, .slice x.sa 0 x.sc, .slice x.ta 0 x.tc, .bool false]⟩), (11, 30, .int .i64 0), (12, 4, .pointer (some ⟨x.p4, 0, none⟩)), (14, 5, .int .i64 0)] r).ev (.tmp 19) = some (.tuple #[.agg ⟨[.int .i64 1000, .slice x.ra 2 x.rc, .slice x.sa 0 x.sc, .slice x.ta 0 x.tc, .bool false]⟩, .int .i64 0]) := fun r => (evK 9 (hd9 9 rfl) rfl rfl)
      refine (JL.pure (v := .int .i64 0) (by simp only [pureOp, e19]; rfl) rfl (JL.nil fun a' Ha9 => ?_)) a9 Ha
      exact ⟨hC.step (fun p hp h => by simp at hp; rcases hp with rfl | rfl | rfl | rfl | rfl | rfl | rfl | rfl | rfl <;> first | exact absurd h (by decide) | exact hd9 _ rfl), x, Ha9.kfr_put hl9 rfl (by simp) (fun _ h _ => h) rfl, H⟩
    · obtain rfl := Option.some.inj ho
      have e13 := hC.no (j := 13) (by simp) hl9
      refine (JL.alloc H z90 rfl fun b' w' H' => JL.nil fun a' Ha9 => ?_) a9 Ha
      refine ⟨hC.step (fun p hp h => by simp at hp; rcases hp with rfl | rfl | rfl | rfl | rfl | rfl | rfl | rfl | rfl <;> first | exact absurd h (by decide) | exact hd9 _ rfl), {x with p4 := b'}, Ha9.kfr_put hl9 rfl (by simp) ?_ rfl, ?_⟩
      · intro y hy hl
        simp at hy
        rcases hy with rfl | rfl | rfl | rfl | rfl | rfl | rfl | rfl | rfl | rfl | rfl | rfl | rfl | rfl <;> first | (simp [hl9] at hl; done) | simp
      · simp [hl9, e13, mit_true, mit_false] at H' ⊢; exact H'
    · obtain rfl := Option.some.inj ho
      have q12 : l9 12 = true := hd9 12 rfl
      simp only [hl9, q12, mit_true] at H
      have e4 : ∀ r : Fr, (kfr l9 [(0, 20, .pointer (some ⟨b1, 0, none⟩)), (1, 21, bayG.ev (.slice la bayG.land.length lc)), (2, 22, .pointer (some ⟨b1, 4, none⟩)), (3, 23, .agg ⟨[.slice (some ⟨f1, 0, none⟩) 1 1, .slice (some ⟨f2, 0, none⟩) 1 1]⟩), (4, 24, .pointer (some ⟨b1, 6, none⟩)), (5, 25, .agg ⟨[.int .i64 20, .int .i64 20, .int .i64 10, .int .i64 20, .bool false]⟩), (6, 26, .slice x.oa (oneR 1 1).length x.oc), (7, 27, .agg ⟨[.int .i64 0, .slice x.oa (oneR 1 1).length x.oc, .slice none 0 0, .slice none 0 0, .bool false]⟩), (8, 28, .tuple #[.agg ⟨[.int .i64 1000, .slice x.ra 2 x.rc, .slice x.sa 0 x.sc, .slice x.ta 0 x.tc, .bool false]⟩, .int .i64 0]), (9, 19, .tuple #[.agg ⟨[.int .i64 1000, .slice x.ra 2 x.rc, .slice x.sa 0 x.sc, .slice x.ta 0 x.tc, .bool false]⟩, .int .i64 0]), (10, 29, .agg ⟨[.int .i64 1000, .slice x.ra 2 x.rc, .slice x.sa 0 x.sc, .slice x.ta 0 x.tc, .bool false]⟩), (11, 30, .int .i64 0), (12, 4, .pointer (some ⟨x.p4, 0, none⟩)), (14, 5, .int .i64 0)] r).ev (.tmp 4) = some (.pointer (some ⟨x.p4, 0, none⟩)) := fun r => evK 12 q12 rfl rfl
      have e29 : ∀ r : Fr, (kfr l9 [(0, 20, .pointer (some ⟨b1, 0, none⟩)), (1, 21, bayG.ev (.slice la bayG.land.length lc)), (2, 22, .pointer (some ⟨b1, 4, none⟩)), (3, 23, .agg ⟨[.slice (some ⟨f1, 0, none⟩) 1 1, .slice (some ⟨f2, 0, none⟩) 1 1]⟩), (4, 24, .pointer (some ⟨b1, 6, none⟩)), (5, 25, .agg ⟨[.int .i64 20, .int .i64 20, .int .i64 10, .int .i64 20, .bool false]⟩), (6, 26, .slice x.oa (oneR 1 1).length x.oc), (7, 27, .agg ⟨[.int .i64 0, .slice x.oa (oneR 1 1).length x.oc, .slice none 0 0, .slice none 0 0, .bool false]⟩), (8, 28, .tuple #[.agg ⟨[.int .i64 1000, .slice x.ra 2 x.rc, .slice x.sa 0 x.sc, .slice x.ta 0 x.tc, .bool false]⟩, .int .i64 0]), (9, 19, .tuple #[.agg ⟨[.int .i64 1000, .slice x.ra 2 x.rc, .slice x.sa 0 x.sc, .slice x.ta 0 x.tc, .bool false]⟩, .int .i64 0]), (10, 29, .agg ⟨[.int .i64 1000, .slice x.ra 2 x.rc, .slice x.sa 0 x.sc, .slice x.ta 0 x.tc, .bool false]⟩), (11, 30, .int .i64 0), (12, 4, .pointer (some ⟨x.p4, 0, none⟩)), (14, 5, .int .i64 0)] r).ev (.tmp 29) = some (.agg ⟨[.int .i64 1000, .slice x.ra 2 x.rc, .slice x.sa 0 x.sc, .slice x.ta 0 x.tc, .bool false]⟩) := fun r => evK 10 (hd9 10 rfl) rfl rfl
      refine (JL.storeB 0 H (e4 _) (e29 _) sh90 rfl rfl rfl rfl rfl fun w' H' => JL.nil fun a' Ha9 => ?_) a9 Ha
      refine ⟨hC.step (fun p hp h => by simp at hp; rcases hp with rfl | rfl | rfl | rfl | rfl | rfl | rfl | rfl | rfl <;> first | exact absurd h (by decide) | exact hd9 _ rfl), x, Ha9.kfr_skip rfl, ?_⟩
      simp [q12, mit_true] at H' ⊢; exact H'
    · obtain rfl := Option.some.inj ho
      have e30 : ∀ r : Fr, (kfr l9 [(0, 20, .pointer (some ⟨b1, 0, none⟩)), (1, 21, bayG.ev (.slice la bayG.land.length lc)), (2, 22, .pointer (some ⟨b1, 4, none⟩)), (3, 23, .agg ⟨[.slice (some ⟨f1, 0, none⟩) 1 1, .slice (some ⟨f2, 0, none⟩) 1 1]⟩), (4, 24, .pointer (some ⟨b1, 6, none⟩)), (5, 25, .agg ⟨[.int .i64 20, .int .i64 20, .int .i64 10, .int .i64 20, .bool false]⟩), (6, 26, .slice x.oa (oneR 1 1).length x.oc), (7, 27, .agg ⟨[.int .i64 0, .slice x.oa (oneR 1 1).length x.oc, .slice none 0 0, .slice none 0 0, .bool false]⟩), (8, 28, .tuple #[.agg ⟨[.int .i64 1000, .slice x.ra 2 x.rc, .slice x.sa 0 x.sc, .slice x.ta 0 x.tc, .bool false]⟩, .int .i64 0]), (9, 19, .tuple #[.agg ⟨[.int .i64 1000, .slice x.ra 2 x.rc, .slice x.sa 0 x.sc, .slice x.ta 0 x.tc, .bool false]⟩, .int .i64 0]), (10, 29, .agg ⟨[.int .i64 1000, .slice x.ra 2 x.rc, .slice x.sa 0 x.sc, .slice x.ta 0 x.tc, .bool false]⟩), (11, 30, .int .i64 0), (12, 4, .pointer (some ⟨x.p4, 0, none⟩)), (14, 5, .int .i64 0)] r).ev (.tmp 30) = some (.int .i64 0) := fun r => (evK 11 (hd9 11 rfl) rfl rfl)
      refine (JL.pure (v := .int .i64 0) (by simp only [pureOp, e30]) rfl (JL.nil fun a' Ha9 => ?_)) a9 Ha
      exact ⟨hC.step (fun p hp h => by simp at hp; rcases hp with rfl | rfl | rfl | rfl | rfl | rfl | rfl | rfl | rfl <;> first | exact absurd h (by decide) | exact hd9 _ rfl), x, Ha9.kfr_put hl9 rfl (by simp) (fun _ h _ => h) rfl, H⟩
  intro x w9 H
  obtain ⟨oa, oc, ra, rc, sa, sc, ta, tc, b4⟩ := x
  replace H := (show Own w w9 (blk b4 (.cells ⟨[.int .i64 1000, .slice ra 2 rc, .slice sa 0 sc, .slice ta 0 tc, .bool false]⟩ 90 (0, 0)) :: runRow (.slice ra 2 rc) [⟨1, 2, 3⟩, ⟨2, 2, 3⟩] :: runRow (.slice sa 0 sc) [] :: runRow (.slice ta 0 tc) [] :: runRow (.slice oa (oneR 1 1).length oc) (oneR 1 1) :: _) from H)
  show DR _ _ _ _ _ _ _
  refine DR.done rfl ?_
  ((repeat refine Ex.normal_block ?_); refine Ex.next ?_)
  ((repeat refine JC.seq ?_); refine JC.region ?_)
  refine JL.loadB 5 H rfl sh54 rfl rfl rfl ?_
  refine JL.build s23 rfl rfl ?_
  refine JL.build s23 rfl rfl ?_
  refine JL.build s54 rfl rfl ?_
  refine JL.eqs rfl rfl (eqPush ⟨⟨100, 50⟩, ⟨100, 100⟩⟩ ⟨⟨100, 50⟩, ⟨100, 100⟩⟩) rfl ?_
  refine JL.pure rfl rfl ?_
  refine JL.re 6 rfl (v' := .bool true) (by rfl) ?_
  refine JL.nil ?_
  ((repeat refine Ex.normal_block ?_); refine Ex.next ?_)
  ((repeat refine JC.seq ?_); refine JC.region ?_)
  refine JL.pure rfl rfl ?_
  refine JL.pure rfl rfl ?_
  refine JL.re 37 rfl (v' := .bool true) (by kernel_rfl) ?_
  refine JL.pure rfl rfl ?_
  refine JL.want rfl rfl ?_
  refine JL.pure rfl rfl ?_
  refine JL.pure rfl rfl ?_
  refine JL.pure rfl rfl ?_
  refine JL.want rfl rfl ?_
  refine JL.pure rfl rfl ?_
  refine JL.want rfl rfl ?_
  refine JL.pure rfl rfl ?_
  refine JL.re 43 rfl (v' := .bool true) (by kernel_rfl) ?_
  refine JL.pure rfl rfl ?_
  refine JL.pure rfl rfl ?_
  refine JL.want rfl rfl ?_
  refine JL.fieldAddr rfl Try.underlying90 rfl sh3 rfl ?_
  refine JL.want rfl rfl ?_
  refine JL.loadB 0 H rfl sh3 rfl rfl rfl ?_
  refine JL.want rfl rfl ?_
  refine JL.pure rfl rfl ?_
  refine JL.re 48 rfl (v' := .bool true) (by kernel_rfl) ?_
  refine JL.pure rfl rfl ?_
  refine JL.pure rfl rfl ?_
  refine JL.want rfl rfl ?_
  refine JL.fieldAddr rfl Try.underlying90 rfl sh50 rfl ?_
  refine JL.want rfl rfl ?_
  refine JL.loadB 0 H rfl sh50 rfl rfl rfl ?_
  refine JL.want rfl rfl ?_
  refine JL.build s140 rfl rfl ?_
  refine JL.want rfl rfl ?_
  refine JL.build s140 rfl rfl ?_
  refine JL.want rfl rfl ?_
  refine JL.buildSlice H Try.underlying50 sh140 z140 rfl rfl rfl rfl rfl ?_
  intro b55 w8 H
  refine JL.want rfl rfl ?_
  refine JL.callP H fb67 rfl rfl (same_c _ _ _ [⟨1, 2, 3⟩, ⟨2, 2, 3⟩] _ (runSl H (j := 2) rfl (by decide)) (H.blkSl (j := 0) (enc := Run.cs) rfl [⟨1, 2, 3⟩, ⟨2, 2, 3⟩] rfl (fun _ => rfl) (by decide))) ?_
  intro w9 H _
  refine JL.re 56 rfl (v' := .bool true) (by kernel_rfl) ?_
  refine JL.pure rfl rfl ?_
  refine JL.pure rfl rfl ?_
  refine JL.want rfl rfl ?_
  refine JL.fieldAddr rfl Try.underlying90 rfl sh50 rfl ?_
  refine JL.want rfl rfl ?_
  refine JL.loadB 1 H rfl sh50 rfl rfl rfl ?_
  refine JL.want rfl rfl ?_
  refine JL.len rfl Try.underlying50 rfl ?_
  refine JL.want rfl rfl ?_
  refine JL.fieldAddr rfl Try.underlying90 rfl sh50 rfl ?_
  refine JL.want rfl rfl ?_
  refine JL.loadB 1 H rfl sh50 rfl rfl rfl ?_
  refine JL.want rfl rfl ?_
  refine JL.len rfl Try.underlying50 rfl ?_
  refine JL.want rfl rfl ?_
  refine JL.arith rfl (by unfold In64; decide) rfl ?_
  refine JL.want rfl rfl ?_
  refine JL.pure rfl rfl ?_
  refine JL.re 66 rfl (v' := .bool true) (by rfl) ?_
  refine JL.pure rfl rfl ?_
  refine JL.pure rfl rfl ?_
  refine JL.want rfl rfl ?_
  refine JL.fieldAddr rfl Try.underlying90 rfl sh4 rfl ?_
  refine JL.want rfl rfl ?_
  refine JL.loadB 1 H rfl sh4 rfl rfl rfl ?_
  refine JL.want rfl rfl ?_
  refine JL.pure rfl rfl ?_
  refine JL.re 71 rfl (v' := .bool true) (by rfl) ?_
  refine JL.pure rfl rfl ?_
  refine JL.pure rfl rfl ?_
  refine JL.nil ?_
  ((repeat refine Ex.normal_block ?_); refine Ex.next ?_)
  ((repeat refine JC.seq ?_); refine JC.ret ?_)
  (repeat (first | refine Ex.ret_then ?_ | refine Ex.ret_block ?_))
  refine Ex.ret1 rfl (.tmp rfl) ⟨rfl, H.below⟩
/-- is it great? (what is asked of it) -/
theorem great04_c (g : Grid) (lv : Value) (n : Int) (cv wv psv : Value) (cu wi : List Flow) (ps : List Patch) (w : World) (hl : SlR w lv g.land) (hc : FlowsIs w cv cu) (hw : FlowsIs w wv wi) (hp : Sl Patch.ev (true, 5) w psv ps) (hpi : ∀ p ∈ ps, p.is w) :
    Calls Try.prog 61 #[g.ev lv, .int .i64 n, .agg ⟨[cv, wv]⟩, psv] w (fun e w' => ∃ b, e = .returned (.bool b) ∧ (b = false → greatB g n [] = false) ∧ Below w.heap.size w w') := by
  obtain ⟨la, lc, rfl⟩ := hl.len
  obtain ⟨hc1, hcf⟩ := hc
  obtain ⟨hw1, hwf⟩ := hw
  obtain ⟨hcn, ca, cc, rfl, hca⟩ := hc1
  obtain ⟨hwn, wa, wc, rfl, hwa⟩ := hw1
  obtain ⟨hpn, pa, pc, rfl, hpa⟩ := hp
  refine calls_J (args := [g.ev (.slice la g.land.length lc), .int .i64 n, .agg ⟨[.slice ca cu.length cc, .slice wa wi.length wc]⟩, .slice pa ps.length pc]) Try.func61 rfl Try.ntmps61 rfl ?_
  have H := Own.start w
  ((repeat refine JC.seq ?_); refine JC.region ?_)
  refine JL.box H rfl rfl rfl ?_
  intro b4 w1 H
  refine JL.box H rfl rfl rfl ?_
  intro b6 w2 H
  refine JL.pure rfl rfl ?_
  refine JL.nil ?_
  ((repeat refine Ex.normal_block ?_); refine Ex.next ?_)
  ((repeat refine JC.seq ?_); refine JC.region ?_)
  refine JL.loadB 1 H rfl sh52 rfl rfl rfl ?_
  refine JL.pure rfl rfl ?_
  refine JL.callP H fb41 rfl rfl (great_c g _ _ n [] _ (hl.grow H.below) (nilSl _) (by simp)) ?_
  intro w3 H _
  refine JL.re 16 rfl (v' := .bool (greatB g n [])) rfl ?_
  refine JL.pure rfl rfl ?_
  refine JL.nil ?_
  ((repeat refine Ex.normal_block ?_); refine Ex.next ?_)
  ((repeat refine JC.seq ?_); refine JC.region ?_)
  refine JL.pure rfl rfl ?_
  refine JL.pure rfl rfl ?_
  refine JL.cases 18 rfl ?_ ?_
  · intro h18
    (try simp only [Bool.not_eq_true', Bool.not_eq_false', decide_eq_true_eq, decide_eq_false_iff_not] at h18)
    refine JL.pass rfl rfl rfl rfl ?_
    refine JL.pass rfl rfl rfl rfl ?_
    refine JL.pass rfl rfl rfl rfl ?_
    refine JL.pass rfl rfl rfl rfl ?_
    refine JL.pure rfl rfl ?_
    refine JL.pure rfl rfl ?_
    refine JL.pass rfl rfl rfl rfl ?_
    refine JL.pass rfl rfl rfl rfl ?_
    refine JL.pass rfl rfl rfl rfl ?_
    refine JL.pass rfl rfl rfl rfl ?_
    refine JL.pure rfl rfl ?_
    refine JL.nil ?_
    ((repeat refine Ex.normal_block ?_); refine Ex.next ?_)
    ((repeat refine JC.seq ?_); refine JC.cond rfl (fun _ => ?_) (fun h => by cases h))
    ((repeat refine JC.seq ?_); refine JC.region ?_)
    refine JL.pure rfl rfl ?_
    refine JL.nil ?_
    ((repeat refine Ex.normal_block ?_); refine Ex.next ?_)
    ((repeat refine JC.seq ?_); refine JC.ret ?_)
    (repeat (first | refine Ex.ret_then ?_ | refine Ex.ret_block ?_))
    refine Ex.ret1 rfl (.tmp rfl) ⟨_, rfl, fun hb => ?_, H.below⟩
    cases hb
  · intro h18
    (try simp only [Bool.not_eq_true', Bool.not_eq_false', decide_eq_true_eq, decide_eq_false_iff_not] at h18)
    refine JL.want rfl rfl ?_
    refine JL.fieldAddr rfl Try.underlying84 rfl sh82 rfl ?_
    refine JL.want rfl rfl ?_
    refine JL.loadB 0 H rfl sh82 rfl rfl rfl ?_
    refine JL.want rfl rfl ?_
    refine JL.len rfl Try.underlying82 rfl ?_
    refine JL.want rfl rfl ?_
    refine JL.pure rfl rfl ?_
    refine JL.pure rfl rfl ?_
    refine JL.pure rfl rfl ?_
    refine JL.cases 24 rfl ?_ ?_
    · intro h24
      (try simp only [Bool.not_eq_true', Bool.not_eq_false', decide_eq_true_eq, decide_eq_false_iff_not] at h24)
      refine JL.pass rfl rfl rfl rfl ?_
      refine JL.pass rfl rfl rfl rfl ?_
      refine JL.pass rfl rfl rfl rfl ?_
      refine JL.pass rfl rfl rfl rfl ?_
      refine JL.pure rfl rfl ?_
      refine JL.nil ?_
      ((repeat refine Ex.normal_block ?_); refine Ex.next ?_)
      ((repeat refine JC.seq ?_); refine JC.cond rfl (fun _ => ?_) (fun h => by cases h))
      ((repeat refine JC.seq ?_); refine JC.region ?_)
      refine JL.pure rfl rfl ?_
      refine JL.nil ?_
      ((repeat refine Ex.normal_block ?_); refine Ex.next ?_)
      ((repeat refine JC.seq ?_); refine JC.ret ?_)
      (repeat (first | refine Ex.ret_then ?_ | refine Ex.ret_block ?_))
      refine Ex.ret1 rfl (.tmp rfl) ⟨_, rfl, fun hb => ?_, H.below⟩
      cases hb
    · intro h24
      (try simp only [Bool.not_eq_true', Bool.not_eq_false', decide_eq_true_eq, decide_eq_false_iff_not] at h24)
      refine JL.want rfl rfl ?_
      refine JL.fieldAddr rfl Try.underlying84 rfl sh82 rfl ?_
      refine JL.want rfl rfl ?_
      refine JL.loadB 0 H rfl sh82 rfl rfl rfl ?_
      refine JL.want rfl rfl ?_
      refine JL.len rfl Try.underlying82 rfl ?_
      refine JL.want rfl rfl ?_
      refine JL.pure rfl rfl ?_
      refine JL.pure rfl rfl ?_
      refine JL.nil ?_
      ((repeat refine Ex.normal_block ?_); refine Ex.next ?_)
      ((repeat refine JC.seq ?_); refine JC.cond rfl ?_ ?_)
      · intro h29
        (try simp only [Bool.not_eq_true', Bool.not_eq_false', decide_eq_true_eq, decide_eq_false_iff_not] at h29)
        ((repeat refine JC.seq ?_); refine JC.region ?_)
        refine JL.pure rfl rfl ?_
        refine JL.nil ?_
        ((repeat refine Ex.normal_block ?_); refine Ex.next ?_)
        ((repeat refine JC.seq ?_); refine JC.ret ?_)
        (repeat (first | refine Ex.ret_then ?_ | refine Ex.ret_block ?_))
        refine Ex.ret1 rfl (.tmp rfl) ⟨_, rfl, fun hb => ?_, H.below⟩
        cases hb
      · intro h29
        (try simp only [Bool.not_eq_true', Bool.not_eq_false', decide_eq_true_eq, decide_eq_false_iff_not] at h29)
        ((repeat refine JC.seq ?_); refine JC.skip ?_)
        ((repeat refine Ex.normal_block ?_); refine Ex.next ?_)
        ((repeat refine JC.seq ?_); refine JC.region ?_)
        refine JL.pure rfl rfl ?_
        refine JL.nil ?_
        ((repeat refine Ex.normal_block ?_); refine Ex.next ?_)
        ((repeat refine JC.seq ?_); refine JC.region ?_)
        refine JL.pure rfl rfl ?_
        refine JL.nil ?_
        ((repeat refine Ex.normal_block ?_); refine Ex.next ?_)
        ((repeat refine JC.seq ?_); refine JC.block ?_)
        ((repeat refine JC.seq ?_); refine JC.loop (ι := Nat × Int) (fun x => [(3, .slice pa ps.length pc), (6, .pointer (some ⟨b6, 0, none⟩)), (10, .int .i64 x.2), (11, .int .i64 x.1)])
          (fun x wr => x.1 ≤ cu.length ∧ Own w wr [blk b6 (.cells ⟨[.slice ca cu.length cc, .slice wa wi.length wc]⟩ 84 (0, 0)), blk b4 (.cells ⟨[.int .i64 g.W, .int .i64 g.H, .int .i64 g.S, .slice la g.land.length lc]⟩ 52 (0, 0))]) (fun x => cu.length - x.1) (0, 0) ?_ ?_ ?_)
        · exact ⟨rfl, rfl, rfl, rfl, trivial⟩
        · exact ⟨Nat.zero_le _, H⟩
        · rintro ⟨k, sm⟩ wr ⟨hk, H⟩
          simp only at hk H
          show JC _ _ _ _ [(3, .slice pa ps.length pc), (6, .pointer (some ⟨b6, 0, none⟩)), (10, .int .i64 sm), (11, .int .i64 k)] _
          ((repeat refine JC.seq ?_); refine JC.region ?_)
          refine JL.pure rfl rfl ?_
          refine JL.fieldAddr rfl Try.underlying84 rfl sh82 rfl ?_
          refine JL.loadB 0 H rfl sh82 rfl rfl rfl ?_
          refine JL.len rfl Try.underlying82 rfl ?_
          refine JL.pure rfl rfl ?_
          refine JL.nil ?_
          ((repeat refine Ex.normal_block ?_); refine Ex.next ?_)
          ((repeat refine JC.seq ?_); refine JC.cond rfl ?_ ?_)
          · intro h34
            (try simp only [Bool.not_eq_true', Bool.not_eq_false', decide_eq_true_eq, decide_eq_false_iff_not] at h34)
            have hk9 : k < cu.length := by omega
            obtain ⟨βr, of9, rfl, hβ, hcx⟩ := hca.resolve_left (by rintro rfl; simp at hk9)
            have hx : cu[k]? = some cu[k] := by simp [hk9]
            have hxs := hcf _ (List.getElem_mem hk9)
            obtain ⟨f9, hfe⟩ : ∃ f, cu[k] = f := ⟨_, rfl⟩
            rw [hfe] at hx hxs
            obtain ⟨fr, to, wv9, wh, low, high⟩ := f9
            simp only at hxs
            obtain ⟨fa, fc, rfl⟩ := hxs.len
            ((repeat refine JC.seq ?_); refine JC.skip ?_)
            ((repeat refine Ex.normal_block ?_); refine Ex.next ?_)
            ((repeat refine JC.seq ?_); refine JC.block ?_)
            ((repeat refine JC.seq ?_); refine JC.region ?_)
            refine JL.pure rfl rfl ?_
            refine JL.fieldAddr rfl Try.underlying84 rfl sh82 rfl ?_
            refine JL.loadB 0 H rfl sh82 rfl rfl rfl ?_
            refine JL.pure rfl rfl ?_
            refine JL.indexS k rfl rfl Try.underlying82 sh218 rfl hk9 rfl ?_
            refine JL.fieldAddr rfl Try.underlying218 rfl sh50 rfl ?_
            refine JL.load rfl sh50 ((LdAt.part (by have := hcx k _ hx; exact this) 2 rfl 1).grow hβ H.below) rfl ?_
            refine JL.len rfl Try.underlying50 rfl ?_
            refine JL.pure rfl rfl ?_
            refine JL.pure rfl rfl ?_
            refine JL.nil ?_
            ((repeat refine Ex.normal_block ?_); refine Ex.next ?_)
            ((repeat refine JC.seq ?_); refine JC.region ?_)
            refine JL.pure rfl rfl ?_
            refine JL.arith rfl (by unfold In64; omega) rfl ?_
            refine JL.pure rfl rfl ?_
            refine JL.nil ?_
            (repeat refine Ex.normal_block ?_)
            exact Ex.again (k + 1, _) ⟨rfl, rfl, rfl, rfl, trivial⟩ ⟨by simp only; omega, H⟩ (by simp only; omega)
          · intro h34
            (try simp only [Bool.not_eq_true', Bool.not_eq_false', decide_eq_true_eq, decide_eq_false_iff_not] at h34)
            
            ((repeat refine JC.seq ?_); refine JC.exit ?_)
            (repeat (first | refine Ex.exit_then ?_ | refine Ex.exit_miss (by decide) ?_))
            refine Ex.exit_hit ?_
            ((repeat refine Ex.normal_block ?_); refine Ex.next ?_)
            ((repeat refine JC.seq ?_); refine JC.region ?_)
            refine JL.pure rfl rfl ?_
            refine JL.nil ?_
            ((repeat refine Ex.normal_block ?_); refine Ex.next ?_)
            ((repeat refine JC.seq ?_); refine JC.block ?_)
            ((repeat refine JC.seq ?_); refine JC.loop (ι := Nat × Int) (fun x => [(3, .slice pa ps.length pc), (6, .pointer (some ⟨b6, 0, none⟩)), (10, .int .i64 x.2), (12, .int .i64 x.1)])
              (fun x wr => x.1 ≤ wi.length ∧ Own w wr [blk b6 (.cells ⟨[.slice ca cu.length cc, .slice wa wi.length wc]⟩ 84 (0, 0)), blk b4 (.cells ⟨[.int .i64 g.W, .int .i64 g.H, .int .i64 g.S, .slice la g.land.length lc]⟩ 52 (0, 0))]) (fun x => wi.length - x.1) (0, sm) ?_ ?_ ?_)
            · exact ⟨rfl, rfl, rfl, rfl, trivial⟩
            · exact ⟨Nat.zero_le _, H⟩
            · rintro ⟨k, sm⟩ wr ⟨hk, H⟩
              simp only at hk H
              show JC _ _ _ _ [(3, .slice pa ps.length pc), (6, .pointer (some ⟨b6, 0, none⟩)), (10, .int .i64 sm), (12, .int .i64 k)] _
              ((repeat refine JC.seq ?_); refine JC.region ?_)
              refine JL.pure rfl rfl ?_
              refine JL.fieldAddr rfl Try.underlying84 rfl sh82 rfl ?_
              refine JL.loadB 0 H rfl sh82 rfl rfl rfl ?_
              refine JL.len rfl Try.underlying82 rfl ?_
              refine JL.pure rfl rfl ?_
              refine JL.nil ?_
              ((repeat refine Ex.normal_block ?_); refine Ex.next ?_)
              ((repeat refine JC.seq ?_); refine JC.cond rfl ?_ ?_)
              · intro h50
                (try simp only [Bool.not_eq_true', Bool.not_eq_false', decide_eq_true_eq, decide_eq_false_iff_not] at h50)
                have hk9 : k < wi.length := by omega
                obtain ⟨βr, of9, rfl, hβ, hcx⟩ := hwa.resolve_left (by rintro rfl; simp at hk9)
                have hx : wi[k]? = some wi[k] := by simp [hk9]
                have hxs := hwf _ (List.getElem_mem hk9)
                obtain ⟨f9, hfe⟩ : ∃ f, wi[k] = f := ⟨_, rfl⟩
                rw [hfe] at hx hxs
                obtain ⟨fr, to, wv9, wh, low, high⟩ := f9
                simp only at hxs
                obtain ⟨fa, fc, rfl⟩ := hxs.len
                ((repeat refine JC.seq ?_); refine JC.skip ?_)
                ((repeat refine Ex.normal_block ?_); refine Ex.next ?_)
                ((repeat refine JC.seq ?_); refine JC.block ?_)
                ((repeat refine JC.seq ?_); refine JC.region ?_)
                refine JL.pure rfl rfl ?_
                refine JL.fieldAddr rfl Try.underlying84 rfl sh82 rfl ?_
                refine JL.loadB 0 H rfl sh82 rfl rfl rfl ?_
                refine JL.pure rfl rfl ?_
                refine JL.indexS k rfl rfl Try.underlying82 sh218 rfl hk9 rfl ?_
                refine JL.fieldAddr rfl Try.underlying218 rfl sh50 rfl ?_
                refine JL.load rfl sh50 ((LdAt.part (by have := hcx k _ hx; exact this) 2 rfl 1).grow hβ H.below) rfl ?_
                refine JL.len rfl Try.underlying50 rfl ?_
                refine JL.pure rfl rfl ?_
                refine JL.pure rfl rfl ?_
                refine JL.nil ?_
                ((repeat refine Ex.normal_block ?_); refine Ex.next ?_)
                ((repeat refine JC.seq ?_); refine JC.region ?_)
                refine JL.pure rfl rfl ?_
                refine JL.arith rfl (by unfold In64; omega) rfl ?_
                refine JL.pure rfl rfl ?_
                refine JL.nil ?_
                (repeat refine Ex.normal_block ?_)
                exact Ex.again (k + 1, _) ⟨rfl, rfl, rfl, rfl, trivial⟩ ⟨by simp only; omega, H⟩ (by simp only; omega)
              · intro h50
                (try simp only [Bool.not_eq_true', Bool.not_eq_false', decide_eq_true_eq, decide_eq_false_iff_not] at h50)
                
                ((repeat refine JC.seq ?_); refine JC.exit ?_)
                (repeat (first | refine Ex.exit_then ?_ | refine Ex.exit_miss (by decide) ?_))
                refine Ex.exit_hit ?_
                ((repeat refine Ex.normal_block ?_); refine Ex.next ?_)
                ((repeat refine JC.seq ?_); refine JC.region ?_)
                refine JL.pure rfl rfl ?_
                refine JL.nil ?_
                ((repeat refine Ex.normal_block ?_); refine Ex.next ?_)
                ((repeat refine JC.seq ?_); refine JC.block ?_)
                ((repeat refine JC.seq ?_); refine JC.loop (ι := Nat × Int) (fun x => [(3, .slice pa ps.length pc), (6, .pointer (some ⟨b6, 0, none⟩)), (10, .int .i64 x.2), (13, .int .i64 x.1)])
                  (fun x wr => x.1 ≤ ps.length ∧ Own w wr [blk b6 (.cells ⟨[.slice ca cu.length cc, .slice wa wi.length wc]⟩ 84 (0, 0)), blk b4 (.cells ⟨[.int .i64 g.W, .int .i64 g.H, .int .i64 g.S, .slice la g.land.length lc]⟩ 52 (0, 0))]) (fun x => ps.length - x.1) (0, sm) ?_ ?_ ?_)
                · exact ⟨rfl, rfl, rfl, rfl, trivial⟩
                · exact ⟨Nat.zero_le _, H⟩
                · rintro ⟨k, sm⟩ wr ⟨hk, H⟩
                  simp only at hk H
                  show JC _ _ _ _ [(3, .slice pa ps.length pc), (6, .pointer (some ⟨b6, 0, none⟩)), (10, .int .i64 sm), (13, .int .i64 k)] _
                  ((repeat refine JC.seq ?_); refine JC.region ?_)
                  refine JL.pure rfl rfl ?_
                  refine JL.pure rfl rfl ?_
                  refine JL.len rfl Try.underlying216 rfl ?_
                  refine JL.pure rfl rfl ?_
                  refine JL.nil ?_
                  ((repeat refine Ex.normal_block ?_); refine Ex.next ?_)
                  ((repeat refine JC.seq ?_); refine JC.cond rfl ?_ ?_)
                  · intro h65
                    (try simp only [Bool.not_eq_true', Bool.not_eq_false', decide_eq_true_eq, decide_eq_false_iff_not] at h65)
                    have hk9 : k < ps.length := by omega
                    obtain ⟨βr, of9, rfl, hβ, hcx⟩ := hpa.resolve_left (by rintro rfl; simp at hk9)
                    have hx : ps[k]? = some ps[k] := by simp [hk9]
                    have hxs := hpi _ (List.getElem_mem hk9)
                    obtain ⟨p9, hpe⟩ : ∃ p, ps[k] = p := ⟨_, rfl⟩
                    rw [hpe] at hx hxs
                    obtain ⟨t9, lf9, l9, rf9, r9, bf9, b9, of8⟩ := p9
                    obtain ⟨x1, x2, x3⟩ := hxs
                    simp only at x1 x2 x3
                    obtain ⟨a1, d1, rfl⟩ := x1.len
                    obtain ⟨a2, d2, rfl⟩ := x2.len
                    obtain ⟨a3, d3, rfl⟩ := x3.len
                    ((repeat refine JC.seq ?_); refine JC.skip ?_)
                    ((repeat refine Ex.normal_block ?_); refine Ex.next ?_)
                    ((repeat refine JC.seq ?_); refine JC.block ?_)
                    ((repeat refine JC.seq ?_); refine JC.draw 23 H mixed (by kernel_rfl) rfl ?_)
                    refine JD.pure rfl rfl ?_
                    refine JD.pure rfl rfl ?_
                    refine JD.pure rfl rfl ?_
                    refine JD.indexS k rfl rfl Try.underlying216 sh90 rfl hk9 rfl ?_
                    refine JD.fieldAddr rfl Try.underlying90 rfl sh50 rfl ?_
                    refine JD.load rfl sh50 (fun w hw => (LdAt.part (by have := hcx k _ hx; exact this) 1 rfl 1).grow hβ hw.below) rfl ?_
                    refine JD.len rfl Try.underlying50 rfl ?_
                    refine JD.pure rfl rfl ?_
                    refine JD.pure rfl rfl ?_
                    refine JD.pure rfl rfl ?_
                    refine JD.indexS k rfl rfl Try.underlying216 sh90 rfl hk9 rfl ?_
                    refine JD.fieldAddr rfl Try.underlying90 rfl sh50 rfl ?_
                    refine JD.load rfl sh50 (fun w hw => (LdAt.part (by have := hcx k _ hx; exact this) 2 rfl 1).grow hβ hw.below) rfl ?_
                    refine JD.len rfl Try.underlying50 rfl ?_
                    refine JD.pure rfl rfl ?_
                    refine JD.pure rfl rfl ?_
                    refine JD.pure rfl rfl ?_
                    refine JD.indexS k rfl rfl Try.underlying216 sh90 rfl hk9 rfl ?_
                    refine JD.fieldAddr rfl Try.underlying90 rfl sh50 rfl ?_
                    refine JD.load rfl sh50 (fun w hw => (LdAt.part (by have := hcx k _ hx; exact this) 3 rfl 1).grow hβ hw.below) rfl ?_
                    refine JD.len rfl Try.underlying50 rfl ?_
                    refine JD.pure rfl rfl ?_
                    refine JD.pure rfl rfl ?_
                    refine JD.nil ?_
                    intro w4 H
                    show JL _ _ _ _ _ _ _
                    refine JL.nil ?_
                    ((repeat refine Ex.normal_block ?_); refine Ex.next ?_)
                    ((repeat refine JC.seq ?_); refine JC.region ?_)
                    refine JL.pure rfl rfl ?_
                    refine JL.arith rfl (by unfold In64; omega) rfl ?_
                    refine JL.pure rfl rfl ?_
                    refine JL.nil ?_
                    (repeat refine Ex.normal_block ?_)
                    exact Ex.again (k + 1, _) ⟨rfl, rfl, rfl, rfl, trivial⟩ ⟨by simp only; omega, H⟩ (by simp only; omega)
                  · intro h65
                    (try simp only [Bool.not_eq_true', Bool.not_eq_false', decide_eq_true_eq, decide_eq_false_iff_not] at h65)
                    
                    ((repeat refine JC.seq ?_); refine JC.exit ?_)
                    (repeat (first | refine Ex.exit_then ?_ | refine Ex.exit_miss (by decide) ?_))
                    refine Ex.exit_hit ?_
                    ((repeat refine Ex.normal_block ?_); refine Ex.next ?_)
                    ((repeat refine JC.seq ?_); refine JC.region ?_)
                    refine JL.pure rfl rfl ?_
                    refine JL.pure rfl rfl ?_
                    refine JL.pure rfl rfl ?_
                    refine JL.nil ?_
                    ((repeat refine Ex.normal_block ?_); refine Ex.next ?_)
                    ((repeat refine JC.seq ?_); refine JC.ret ?_)
                    (repeat (first | refine Ex.ret_then ?_ | refine Ex.ret_block ?_))
                    refine Ex.ret1 rfl (.tmp rfl) ⟨_, rfl, fun hb => ?_, H.below⟩
                    exact h18
end Go.J

namespace Go.J
open Go.RowKit Go.Proofs
set_option maxRecDepth 8000
set_option linter.unusedSimpArgs false
set_option linter.unusedVariables false
/-! drift: parts of patches, what is cut, what is narrowed -/
def eR (F : Nat → List Run × Int) (i : Nat) : List Run := if firstErr F = 0 then (F i).1 else []
theorem each3_c (f : FuncId) (capt : List Value) (F : Nat → List Run × Int) (w : World) (hb : hasBody Try.prog f = true)
    (hf : ∀ w', Below w.heap.size w w' → ∀ i : Nat, i < 3 → Calls Try.prog f (.int .i64 i :: capt).toArray w' (fun e w'' => ResR w' w'' [] (F i) e)) :
    Calls Try.prog 231 #[.func (.func f) #[] ⟨capt⟩] w (fun e w' => ∃ a0 n0 c0 a1 n1 c1 a2 n2 c2, e = .returned (.tuple #[.agg ⟨[.slice a0 n0 c0, .slice a1 n1 c1, .slice a2 n2 c2]⟩, .int .i64 (firstErr F)]) ∧
      Own w w' [runRow (.slice a0 n0 c0) (eR F 0), runRow (.slice a1 n1 c1) (eR F 1), runRow (.slice a2 n2 c2) (eR F 2)]) := by
  refine Calls.mono (each_c f capt F w hb hf) fun e w' h => ?_
  obtain ⟨arr, rfl, h0, h1⟩ := h
  by_cases he : firstErr F = 0
  · obtain ⟨hal, K⟩ := h0 he
    obtain ⟨y0, y1, y2, rfl⟩ := len3 hal
    have K := K.unpackAt (i := 0) rfl
    obtain ⟨u0, y0', rfl⟩ := K.row_slice (j := 0) rfl
    obtain ⟨u1, y1', rfl⟩ := K.row_slice (j := 1) rfl
    obtain ⟨u2, y2', rfl⟩ := K.row_slice (j := 2) rfl
    refine ⟨_, _, _, _, _, _, _, _, _, rfl, ?_⟩
    unfold eR
    rw [if_pos he, if_pos he, if_pos he]
    exact K
  · obtain ⟨rfl, K⟩ := h1 he
    refine ⟨_, _, _, _, _, _, _, _, _, rfl, ?_⟩
    unfold eR
    rw [if_neg he, if_neg he, if_neg he]
    exact ((K.nilRow 140 3).nilRow 140 3).nilRow 140 3
theorem cut_c (fo : FuncId) (n : Int) (g : Grid) (hop : OpIs fo g (twoR n g)) (lv : Value) (t : Int) (lf rf bf qv : Value) (l r b q : List Run) (off : Bool) (w : World) (hl : SlR w lv g.land) (hcl : capOK lv) (h1 : SlR w lf l) (h2 : SlR w rf r) (h3 : SlR w bf b) (hq : SlR w qv q)
    (c1 : capOK lf) (c2 : capOK rf) (c3 : capOK bf) (c4 : capOK qv) :
    Calls Try.prog 195 #[g.ev lv, Patch.ev ⟨t, lf, l, rf, r, bf, b, off⟩, qv, .func (.func fo) #[] #[]] w (fun e w' => PatR w w' [] (cutR n g ⟨t, l, r, b, off⟩ q) e) := by
  obtain ⟨la, lc, rfl⟩ := hl.len
  obtain ⟨a1, d1, rfl⟩ := h1.len
  obtain ⟨a2, d2, rfl⟩ := h2.len
  obtain ⟨a3, d3, rfl⟩ := h3.len
  obtain ⟨qa, qc, rfl⟩ := hq.len
  obtain ⟨R, hR⟩ : ∃ R, R = cutR n g ⟨t, l, r, b, off⟩ q := ⟨_, rfl⟩
  rw [← hR]
  unfold cutR at hR
  simp only at hR
  refine calls_J (args := [g.ev (.slice la g.land.length lc), .agg ⟨[.int .i64 t, .slice a1 l.length d1, .slice a2 r.length d2, .slice a3 b.length d3, .bool off]⟩, .slice qa q.length qc, .func (.func fo) #[] #[]]) Try.func195 rfl Try.ntmps195 rfl ?_
  have H := Own.start w
  ((repeat refine JC.seq ?_); refine JC.region ?_)
  refine JL.box H rfl rfl rfl ?_
  intro b4 w1 H
  refine JL.box H rfl rfl rfl ?_
  intro b5 w2 H
  refine JL.box H rfl rfl rfl ?_
  intro b6 w3 H
  refine JL.box H rfl rfl rfl ?_
  intro b7 w4 H
  refine JL.alloc H z90 rfl ?_
  intro b8 w5 H
  refine JL.pure rfl rfl ?_
  refine JL.nil ?_
  ((repeat refine Ex.normal_block ?_); refine Ex.next ?_)
  ((repeat refine JC.seq ?_); refine JC.region ?_)
  refine JL.loadB 4 H rfl sh52 rfl rfl rfl ?_
  refine JL.loadB 3 H rfl sh90 rfl rfl rfl ?_
  refine JL.callP H fb149 rfl rfl (checkPatch_c g _ t _ _ _ l r b off _ (hl.grow H.below) hcl (h1.grow H.below) (h2.grow H.below) (h3.grow H.below) c1 c2 c3) ?_
  intro w6 H _
  refine JL.re 14 rfl (v' := .int .i64 (if patR g ⟨t, l, r, b, off⟩ = true then 0 else 2)) rfl ?_
  refine JL.pure rfl rfl ?_
  refine JL.pure rfl rfl ?_
  refine JL.cases 16 rfl ?_ ?_
  · intro h16
    (try simp only [Bool.not_eq_true', Bool.not_eq_false', decide_eq_true_eq, decide_eq_false_iff_not] at h16)
    refine JL.pass rfl rfl rfl rfl ?_
    refine JL.pass rfl rfl rfl rfl ?_
    refine JL.pass rfl rfl rfl rfl ?_
    refine JL.pass rfl rfl rfl rfl ?_
    refine JL.pure rfl rfl ?_
    refine JL.nil ?_
    ((repeat refine Ex.normal_block ?_); refine Ex.next ?_)
    ((repeat refine JC.seq ?_); refine JC.cond rfl (fun _ => ?_) (fun h => by cases h))
    ((repeat refine JC.seq ?_); refine JC.region ?_)
    refine JL.build s90 rfl rfl ?_
    refine JL.storeB 0 H rfl rfl sh90 rfl rfl rfl rfl rfl ?_
    intro w7 H
    refine JL.pure rfl rfl ?_
    refine JL.nil ?_
    ((repeat refine Ex.normal_block ?_); refine Ex.next ?_)
    ((repeat refine JC.seq ?_); refine JC.ret ?_)
    (repeat (first | refine Ex.ret_then ?_ | refine Ex.ret_block ?_))
    refine Ex.ret2 rfl (.cell rfl sh90 (LdAt.of_block (H.get (i := 0) rfl).2 rfl)) (.tmp rfl) ?_
    have hst : R = (zQP, 2) := by
      rw [hR, if_pos]
      simp_all
    rw [hst]
    exact PatR.zero (((((H.drop 0).drop 0).drop 0).drop 0).drop 0) 2
  · intro h16
    (try simp only [Bool.not_eq_true', Bool.not_eq_false', decide_eq_true_eq, decide_eq_false_iff_not] at h16)
    refine JL.want rfl rfl ?_
    refine JL.loadB 4 H rfl sh52 rfl rfl rfl ?_
    refine JL.want rfl rfl ?_
    refine JL.loadB 2 H rfl sh50 rfl rfl rfl ?_
    refine JL.want rfl rfl ?_
    refine JL.callP H fb100 rfl rfl (checkRegion_c g _ _ q _ (hl.grow H.below) (hq.grow H.below)) ?_
    intro w8 H _
    refine JL.want rfl rfl ?_
    refine JL.pure rfl rfl ?_
    refine JL.pure rfl rfl ?_
    refine JL.nil ?_
    ((repeat refine Ex.normal_block ?_); refine Ex.next ?_)
    ((repeat refine JC.seq ?_); refine JC.cond rfl ?_ ?_)
    · intro h21
      (try simp only [Bool.not_eq_true', Bool.not_eq_false', decide_eq_true_eq, decide_eq_false_iff_not] at h21)
      ((repeat refine JC.seq ?_); refine JC.region ?_)
      refine JL.build s90 rfl rfl ?_
      refine JL.storeB 0 H rfl rfl sh90 rfl rfl rfl rfl rfl ?_
      intro w9 H
      refine JL.pure rfl rfl ?_
      refine JL.nil ?_
      ((repeat refine Ex.normal_block ?_); refine Ex.next ?_)
      ((repeat refine JC.seq ?_); refine JC.ret ?_)
      (repeat (first | refine Ex.ret_then ?_ | refine Ex.ret_block ?_))
      refine Ex.ret2 rfl (.cell rfl sh90 (LdAt.of_block (H.get (i := 0) rfl).2 rfl)) (.tmp rfl) ?_
      have hst : R = (zQP, 2) := by
        rw [hR, if_pos]
        simp_all
      rw [hst]
      exact PatR.zero (((((H.drop 0).drop 0).drop 0).drop 0).drop 0) 2
    · intro h21
      (try simp only [Bool.not_eq_true', Bool.not_eq_false', decide_eq_true_eq, decide_eq_false_iff_not] at h21)
      ((repeat refine JC.seq ?_); refine JC.skip ?_)
      ((repeat refine Ex.normal_block ?_); refine Ex.next ?_)
      ((repeat refine JC.seq ?_); refine JC.region ?_)
      refine JL.pure rfl rfl ?_
      have gF := H.get (i := 1) rfl
      have gG := H.get (i := 4) rfl
      have gP := H.get (i := 3) rfl
      have gQ := H.get (i := 2) rfl
      have lF := lt_of_block gF.2
      have lG := lt_of_block gG.2
      have lP := lt_of_block gP.2
      have lQ := lt_of_block gQ.2
      refine JL.call fb231 rfl rfl (each3_c 260 [.pointer (some ⟨b7, 0, none⟩), .pointer (some ⟨b4, 0, none⟩), .pointer (some ⟨b5, 0, none⟩), .pointer (some ⟨b6, 0, none⟩)] (fun i => twoR n g (nth3 l r b i) q) _ fb260
        (fun w' hb' i hi3 => cut1_c fo g _ hop (.slice la g.land.length lc) t a1 a2 a3 d1 d2 d3 l r b off qa qc q i b7 b4 b5 b6 w' ((LdAt.of_block gF.2 rfl).grow lF hb') ((LdAt.of_block gG.2 rfl).grow lG hb') ((LdAt.of_block gP.2 rfl).grow lP hb') ((LdAt.of_block gQ.2 rfl).grow lQ hb')
          (Nat.lt_of_lt_of_le lF hb'.size) (Nat.lt_of_lt_of_le lG hb'.size) (Nat.lt_of_lt_of_le lP hb'.size) (Nat.lt_of_lt_of_le lQ hb'.size) hi3 (hl.grow (H.below.trans (hb'.mono H.below.size))) (h1.grow (H.below.trans (hb'.mono H.below.size))) (h2.grow (H.below.trans (hb'.mono H.below.size))) (h3.grow (H.below.trans (hb'.mono H.below.size))) (hq.grow (H.below.trans (hb'.mono H.below.size))) c1 c2 c3 c4)) ?_
      rintro _ w10 ⟨a0', n0', c0', a1', n1', c1', a2', n2', c2', rfl, K⟩
      have H := H.join K
      refine ⟨_, rfl, ?_⟩
      refine JL.pure rfl rfl ?_
      refine JL.pure rfl rfl ?_
      refine JL.pure rfl rfl ?_
      refine JL.alloc H z292 rfl ?_
      intro b10 w11 H
      refine JL.storeB 0 H rfl rfl sh292 rfl rfl rfl rfl rfl ?_
      intro w12 H
      refine JL.pure rfl rfl ?_
      refine JL.nil ?_
      ((repeat refine Ex.normal_block ?_); refine Ex.next ?_)
      ((repeat refine JC.seq ?_); refine JC.region ?_)
      refine JL.pure rfl rfl ?_
      refine JL.pure rfl rfl ?_
      refine JL.nil ?_
      ((repeat refine Ex.normal_block ?_); refine Ex.next ?_)
      ((repeat refine JC.seq ?_); refine JC.cond rfl ?_ ?_)
      · intro h29
        (try simp only [Bool.not_eq_true', Bool.not_eq_false', decide_eq_true_eq, decide_eq_false_iff_not] at h29)
        ((repeat refine JC.seq ?_); refine JC.region ?_)
        refine JL.build s90 rfl rfl ?_
        refine JL.pure rfl rfl ?_
        refine JL.storeB 4 H rfl rfl sh90 rfl rfl rfl rfl rfl ?_
        intro w13 H
        refine JL.pure rfl rfl ?_
        refine JL.nil ?_
        ((repeat refine Ex.normal_block ?_); refine Ex.next ?_)
        ((repeat refine JC.seq ?_); refine JC.ret ?_)
        (repeat (first | refine Ex.ret_then ?_ | refine Ex.ret_block ?_))
        refine Ex.ret2 rfl (.cell rfl sh90 (LdAt.of_block (H.get (i := 4) rfl).2 rfl)) (.tmp rfl) ?_
        have hst : R = (zQP, firstErr (fun i => twoR n g (nth3 l r b i) q)) := by
          rw [hR, if_neg (by simp_all), if_pos (by simp_all)]
        rw [hst]
        exact PatR.zero (((((((((H.drop 0).drop 0).drop 0).drop 0).drop 0).drop 0).drop 0).drop 0).drop 0) _
      · intro h29
        (try simp only [Bool.not_eq_true', Bool.not_eq_false', decide_eq_true_eq, decide_eq_false_iff_not] at h29)
        ((repeat refine JC.seq ?_); refine JC.skip ?_)
        ((repeat refine Ex.normal_block ?_); refine Ex.next ?_)
        ((repeat refine JC.seq ?_); refine JC.region ?_)
        refine JL.loadB 0 H rfl sh292 rfl rfl rfl ?_
        refine JL.fieldAddr rfl Try.underlying90 rfl sh3 rfl ?_
        refine JL.loadB 7 H rfl sh3 rfl rfl rfl ?_
        refine JL.fieldAddr rfl Try.underlying90 rfl sh4 rfl ?_
        refine JL.loadB 7 H rfl sh4 rfl rfl rfl ?_
        refine JL.callP H fb234 rfl rfl (patchD_c _ a0' a1' a2' _ _ _ c0' c1' c2' _ _) ?_
        intro w14 H _
        refine JL.storeB 4 H rfl rfl sh90 rfl rfl rfl rfl rfl ?_
        intro w15 H
        refine JL.pure rfl rfl ?_
        refine JL.nil ?_
        ((repeat refine Ex.normal_block ?_); refine Ex.next ?_)
        ((repeat refine JC.seq ?_); refine JC.ret ?_)
        (repeat (first | refine Ex.ret_then ?_ | refine Ex.ret_block ?_))
        refine Ex.ret2 rfl (.cell rfl sh90 (LdAt.of_block (H.get (i := 4) rfl).2 rfl)) (.tmp rfl) ?_
        have he : firstErr (fun i => twoR n g (nth3 l r b i) q) = 0 := by simpa using h29
        have hst : R = (⟨t, eR (fun i => twoR n g (nth3 l r b i) q) 0, eR (fun i => twoR n g (nth3 l r b i) q) 1, eR (fun i => twoR n g (nth3 l r b i) q) 2, off⟩, 0) := by
          rw [hR, if_neg (by simp_all), if_neg (by simp_all)]
          unfold eR
          rw [if_pos he, if_pos he, if_pos he]
          rfl
        rw [hst]
        exact ⟨_, _, _, rfl, ((((((H.drop 0).drop 3).drop 3).drop 3).drop 3).drop 3)⟩
theorem within103_c (g : Grid) (lv : Value) (t : Int) (lf rf bf qv : Value) (l r b q : List Run) (off : Bool) (w : World) (hl : SlR w lv g.land) (hcl : capOK lv) (h1 : SlR w lf l) (h2 : SlR w rf r) (h3 : SlR w bf b) (hq : SlR w qv q)
    (c1 : capOK lf) (c2 : capOK rf) (c3 : capOK bf) (c4 : capOK qv) :
    Calls Try.prog 103 #[g.ev lv, Patch.ev ⟨t, lf, l, rf, r, bf, b, off⟩, qv] w (fun e w' => PatR w w' [] (cutR 1 g ⟨t, l, r, b, off⟩ q) e) := by
  obtain ⟨la, lc, rfl⟩ := hl.len
  obtain ⟨a1, d1, rfl⟩ := h1.len
  obtain ⟨a2, d2, rfl⟩ := h2.len
  obtain ⟨a3, d3, rfl⟩ := h3.len
  obtain ⟨qa, qc, rfl⟩ := hq.len
  refine calls_J (args := [g.ev (.slice la g.land.length lc), .agg ⟨[.int .i64 t, .slice a1 l.length d1, .slice a2 r.length d2, .slice a3 b.length d3, .bool off]⟩, .slice qa q.length qc]) Try.func103 rfl Try.ntmps103 rfl ?_
  have H := Own.start w
  ((repeat refine JC.seq ?_); refine JC.region ?_)
  refine JL.box H rfl rfl rfl ?_
  intro b3 w1 H
  refine JL.box H rfl rfl rfl ?_
  intro b4 w2 H
  refine JL.alloc H z90 rfl ?_
  intro b6 w3 H
  refine JL.pure rfl rfl ?_
  refine JL.nil ?_
  ((repeat refine Ex.normal_block ?_); refine Ex.next ?_)
  ((repeat refine JC.seq ?_); refine JC.region ?_)
  refine JL.loadB 2 H rfl sh52 rfl rfl rfl ?_
  refine JL.loadB 1 H rfl sh90 rfl rfl rfl ?_
  refine JL.pure rfl rfl ?_
  refine JL.call fb195 rfl rfl (cut_c 42 1 g (by rw [show twoR 1 g = bothR g from funext fun x => funext fun y => (bothR_two ..).symm]; exact op_both g) _ t _ _ _ _ l r b q off _ (hl.grow H.below) hcl (h1.grow H.below) (h2.grow H.below) (h3.grow H.below) (hq.grow H.below) c1 c2 c3 c4) ?_
  rintro _ w4 ⟨va, vb, vc, rfl, K⟩
  obtain ⟨xa, ya, rfl⟩ := K.row_slice (j := 0) rfl
  obtain ⟨xb, yb, rfl⟩ := K.row_slice (j := 1) rfl
  obtain ⟨xc, yc, rfl⟩ := K.row_slice (j := 2) rfl
  have H := H.join K
  refine ⟨_, rfl, ?_⟩
  refine JL.pure rfl rfl ?_
  refine JL.pure rfl rfl ?_
  refine JL.storeB 3 H rfl rfl sh90 rfl rfl rfl rfl rfl ?_
  intro w5 H
  refine JL.pure rfl rfl ?_
  refine JL.nil ?_
  ((repeat refine Ex.normal_block ?_); refine Ex.next ?_)
  ((repeat refine JC.seq ?_); refine JC.ret ?_)
  (repeat (first | refine Ex.ret_then ?_ | refine Ex.ret_block ?_))
  refine Ex.ret2 rfl (.cell rfl sh90 (LdAt.of_block (H.get (i := 3) rfl).2 rfl)) (.tmp rfl) ⟨_, _, _, rfl, (((H.drop 3).drop 3).drop 3)⟩
end Go.J

namespace Go.J
set_option linter.unusedSimpArgs false
set_option linter.unusedVariables false
/-! plain: nothing is lost in a step -/
def Push.has (p : Push) (m : Spot) : Prop := (p.Low.X ≤ m.X ∧ m.X ≤ p.High.X) ∧ p.Low.Y ≤ m.Y ∧ m.Y ≤ p.High.Y
end Go.J

namespace Go.J
set_option linter.unusedSimpArgs false
set_option linter.unusedVariables false
/-! plain: the patch from which a step can have led to one -/
section
variable (g : Grid) (cu wi : List Flow) (d : Drifter) (p : QP) (sec : Int)
end
def emptyQ (q : QP) : Bool := decide (q.l.length + q.r.length + q.b.length = 0)
def meetPR (g : Grid) (p q : QP) : QP × Int := if (pairR 1 g p q (p.off && q.off)).2 = 0 ∧ emptyQ (pairR 1 g p q (p.off && q.off)).1 = true then (zQP, 7) else pairR 1 g p q (p.off && q.off)
end Go.J
