/-
  Lemmas for the statements of this seat; no statement is proved here. No condition.
-/
import Derived.Test.YtfbmgmdjaoackaaJSeg
import Derived.RangeFuncSeq
namespace Go.J
set_option linter.unusedSimpArgs false
set_option linter.unusedVariables false
open Go.RowKit
/-! ## ranging over functions -/
/-- a call of yield -/
def YieldW (P : Program) (l : Nat) (vs : List Value) (w : World) (R : Ending → World → Prop) : Prop := YieldAt Fence.wide 0 P l vs.toArray w R
theorem roundIn_ro {P : Program} {l : Nat} {f : FuncId} {tmps : Array Value} {assign body : Code} {w : World} {R : Ending → World → Prop} (ro : Option Nat) (h : RoundIn Fence.wide 0 P l f tmps assign body w R) : RoundIn (wideR ro) 0 P l f tmps assign body w R := h
section
variable {P : Program} {N : Sz} {ops : Array Oper} {Q : Exit → Act → World → Prop} {rest : List Oper} {fr : Fr} {w w0 : World} {L : List HP}
  {d : Option Tmp} {ty : TypeId} {pos : String} {af : Array Edge}
theorem JL.yield {x : Operand} {l : Nat} {xs : Array Operand} {tys : Array TypeId} {vs : List Value} {R : Ending → World → Prop} (hf : fr.ev x = some (.func (.yield l) #[] #[])) (hx : fr.evs xs.toList = some vs) (hd : Fr.fits N d = true)
    (hy : YieldW P l vs w R) (k : ∀ e w', R e w' → ∃ v, e = .returned v ∧ JL P N ops Q rest (fr.put d v) w') : JL P N ops Q (⟨d, .call ⟨.value x, xs, tys⟩, ty, pos, af, none⟩ :: rest) fr w := by
  intro a H
  obtain ⟨fn, tmps, assign, body, hrun, hR⟩ := hy
  refine wpListIn_plain rfl fun K hK => ⟨fun _ _ => trivial, ?_⟩
  show Oper.uponIn (wideR N.ro) 0 P _ a K Q ((Oper.semAt N.ro a.eval _).run P w)
  have h1 : (xs.map a.eval) = vs.toArray := by
    apply Array.ext'
    rw [Array.toList_map, H.evs hx]
  have hex : (execOp a.eval ⟨d, .call ⟨.value x, xs, tys⟩, ty, pos, af, none⟩).run P w = .ok (.round l fn tmps assign body) w := by
    simp only [execOp, resolve]
    simp [H.eval hf, Deferred.ofValue, h1, invoke, hrun]
  rw [semAt_run hex (by simp)]
  refine ⟨fun h => by simp [wideR] at h, roundIn_ro N.ro (hR.mono fun e w' he => ?_)⟩
  obtain ⟨v, rfl, hk⟩ := k e w' he
  exact hK _ _ (hk _ (H.putO hd v))
end
/-- what a function that is ranged over does: items: what it yields; A: memory of its own from before; Rd: what it reads and the rounds keep -/
def Iter (P : Program) (gf : FuncId) (lb : List Value) {α : Type} (vs : α → List Value) (items : List α) (w0 : World) (A : List HP) (Rd : World → Prop) : Prop :=
  ∀ (l : Nat) (T Tx : List α → List HP → Prop), (∀ pre L X w, T pre L → Own w0 w (X ++ L) → Rd w) →
    (∀ pre x L X w, pre ++ [x] <+: items → T pre L → Own w0 w (X ++ L) → YieldW P l (vs x) w fun e w' => ∃ (b : Bool) (L' : List HP), e = .returned (.bool b) ∧ (if b then T else Tx) (pre ++ [x]) L' ∧ Own w0 w' (X ++ L')) →
    ∀ w L X, T [] L → Own w0 w (A ++ (X ++ L)) → Calls P gf (.func (.yield l) #[] #[] :: lb).toArray w fun e w' => (∃ v, e = .returned v) ∧ ∃ L', Own w0 w' (X ++ L') ∧ (T items L' ∨ ∃ pre, pre <+: items ∧ Tx pre L')
/-- how a round's body may be left -/
def rdPost {α : Type} (S : List α → List HP → Prop) (SX : Code → List α → List HP → Prop) (xs : List α) (w0 : World) (X : List HP) : Exit → Act → World → Prop
  | .normal, _, w' => ∃ L', S xs L' ∧ Own w0 w' (X ++ L')
  | .ret, _, w' => ∃ L', SX .ret xs L' ∧ Own w0 w' (X ++ L')
  | .exit id, _, w' => ∃ L', SX (.exit id) xs L' ∧ Own w0 w' (X ++ L')
  | _, _, _ => False
def Fr.puts : List Tmp → List Value → Fr → Fr
  | t :: ts, v :: vs, fr => Fr.puts ts vs ((t, v) :: fr)
  | _, _, fr => fr
theorem Has.puts {N : Sz} : ∀ {ts : List Tmp} {vs : List Value} {fr : Fr} {tmps : Array Value} {ds : List Deferred}, Has N fr ⟨tmps, ds⟩ → ts.all (fun t => Nat.ble (t + 1) N.n) = true →
    Has N (fr.puts ts vs) ⟨(ts.zip vs).foldl (fun t (p : Tmp × Value) => t.setIfInBounds p.1 p.2) tmps, ds⟩ := by
  intro ts
  induction ts with
  | nil => intro vs fr tmps ds H _; exact H
  | cons t ts ih =>
    intro vs fr tmps ds H h
    simp only [List.all_cons, Bool.and_eq_true] at h
    cases vs with
    | nil => exact H
    | cons v vs =>
      simp only [List.zip_cons_cons, List.foldl_cons]
      exact ih (H.put (d := t) (Nat.le_of_ble_eq_true h.1) v) h.2
theorem Own.putAt {w0 w : World} {X M : List HP} {β : Nat} {o : Obj} (H : Own w0 w (X ++ blk β o :: M)) (o' : Obj) : w.heap[β]? = some o ∧ Own w0 (w.putObj β o') (X ++ blk β o' :: M) := by
  have H1 : Own w0 w (blk β o :: (X ++ M)) := H.perm List.perm_middle
  have hg := (H1.get (i := 0) rfl).2
  have H2 := H1.put (i := 0) (β := β) rfl o' (w' := w.putObj β o') rfl rfl rfl (by simp) (fun j hj _ => World.putObj_heap_other hj) (World.putObj_heap_same (Array.getElem?_eq_some_iff.1 hg).1)
  exact ⟨hg, H2.perm List.perm_middle.symm⟩
section
variable {P : Program} {N : Sz} {Q : Exit → Act → World → Prop} {fr : Fr} {w w0 : World}
theorem JC.rangeFunc {α ι : Type} {g : Operand} {ps : Array Tmp} {assign body : Code} {gf : FuncId} {lb : List Value} {vs : α → List Value} {items : List α} {A : List HP} {Rd : World → Prop}
    (hg : fr.ev g = some (.func (.func gf) #[] ⟨lb⟩)) (hb : hasBody P gf = true) (hit : Iter P gf lb vs items w0 A Rd) (hvs : ∀ x, (vs x).length = ps.size) (hps : ps.toList.all (fun t => Nat.ble (t + 1) N.n) = true)
    (S : List α → List HP → Prop) (SX : Code → List α → List HP → Prop) {L0 : List HP} (H : Own w0 w (A ++ L0)) (h0 : S [] L0) (hrd : ∀ pre L X w, S pre L → Own w0 w (X ++ L) → Rd w)
    (F : ι → α → Fr) (E : ι → α → List HP)
    (hassign : ∀ l pre x L X w, pre ++ [x] <+: items → S pre L → Own w0 w (X ++ L) → JC P ⟨N.n, [], some l⟩ assign (Exit.then (fun a1 w1 => ∃ i, Has ⟨N.n, [], some l⟩ (F i x) a1 ∧ Own w0 w1 (E i x ++ (X ++ L))) (fun _ _ _ => False)) (fr.puts ps.toList (vs x)) w)
    (hbody : ∀ l i pre x L X w, pre ++ [x] <+: items → S pre L → Own w0 w (E i x ++ (X ++ L)) → JC P ⟨N.n, [], some l⟩ body (rdPost S SX (pre ++ [x]) w0 X) (F i x) w)
    (hdone : ∀ D w' L, S items L → Own w0 w' (dfr D :: L) → Ex ⟨N.n, D :: N.ds, N.ro⟩ Q .normal fr w')
    (hstop : ∀ D c pre w' L, pre <+: items → SX c pre L → Own w0 w' (dfr D :: L) → JC P ⟨N.n, D :: N.ds, N.ro⟩ c Q fr w') (hro : N.ro = none := by rfl) : JC P N (.rangeFunc g ps assign body) Q fr w := by
  intro a Ha
  refine wpIn_rangeFunc fun fn _ => ?_
  have hro' : (wideR N.ro).round = none := hro
  rw [hro']
  obtain ⟨rec, hrec⟩ : ∃ rec : LoopState → Option Code → Loop, rec = fun st pe => { state := st, pending := pe, fn, tmps := a.tmps, params := ps, assign, body, defers := w.heap.size } := ⟨_, rfl⟩
  obtain ⟨l, hl⟩ : ∃ l, l = w.heap.size + 1 := ⟨_, rfl⟩
  obtain ⟨D, hD⟩ : ∃ D, D = w.heap.size := ⟨_, rfl⟩
  obtain ⟨W1, hW1⟩ : ∃ W1, W1 = (w.alloc (.deferred (some []))).alloc (.loop (rec .ready none)) := ⟨_, rfl⟩
  have H1 : Own w0 W1 (blk l (.loop (rec .ready none)) :: dfr D :: (A ++ L0)) := by
    rw [hW1, hl, hD]
    have h2 := (H.new (.deferred (some []))).new (.loop (rec .ready none))
    rw [World.size_alloc] at h2
    exact h2
  refine ⟨l, [mark D], W1, { target := .fn (.func gf) ⟨lb⟩, args := #[.func (.yield l) #[] #[]] }, W1, gf, (.func (.yield l) #[] #[] :: lb).toArray, W1, ?_, ?_, fun _ _ => trivial, ?_, fun h => by simp [wideR] at h, callsIn_wide.2 ?_⟩
  · rw [hW1, hrec, hl, hD]; exact run_enterLoop_outer _ _ _ _ _
  · simp only [resolve, Ha.eval hg]
    simp [go_sem, Deferred.ofValue, Act.eval]
  · simp [invoke, callFunc_run hb]
  have hc := hit l (fun pre L => ∃ L1, L = blk l (.loop (rec .ready none)) :: dfr D :: L1 ∧ S pre L1) (fun pre L => ∃ c L1, L = blk l (.loop (rec .done (some c))) :: dfr D :: L1 ∧ SX c pre L1) ?_ ?_ W1
    (blk l (.loop (rec .ready none)) :: dfr D :: L0) [] ⟨L0, rfl, h0⟩ (H1.perm ?_)
  · refine hc.mono ?_
    rintro e w' ⟨⟨v, rfl⟩, L', hO, hh⟩
    rcases hh with ⟨L1, rfl, hS⟩ | ⟨pre, hpre, c, L1, rfl, hS⟩
    · obtain ⟨hg', hO'⟩ := Own.putAt (X := []) hO (.loop { rec .ready none with state := .exhausted })
      refine ⟨_, _, run_endLoop hg' (by rw [hrec]; simp), ?_⟩
      subst hrec
      exact hdone D _ L1 hS ((show Own w0 _ _ from hO').drop 0) ⟨a.tmps, [mark D] ++ a.defers⟩ ⟨Ha.size, by show mark D :: a.defers = _; rw [Ha.defers]; rfl, Ha.get⟩
    · obtain ⟨hg', hO'⟩ := Own.putAt (X := []) hO (.loop { rec .done (some c) with state := .exhausted })
      refine ⟨_, _, run_endLoop hg' (by rw [hrec]; simp), ?_⟩
      subst hrec
      exact hstop D c pre _ L1 hpre hS ((show Own w0 _ _ from hO').drop 0) ⟨a.tmps, [mark D] ++ a.defers⟩ ⟨Ha.size, by show mark D :: a.defers = _; rw [Ha.defers]; rfl, Ha.get⟩
  · rintro pre L X w' ⟨L1, rfl, hS⟩ hO
    refine hrd pre L1 (X ++ [blk l (.loop (rec .ready none)), dfr D]) w' hS ?_
    rw [List.append_assoc]; exact hO
  · subst hrec
    rintro pre x L X w' hpx ⟨L1, rfl, hS⟩ hO
    have hg' := (hO.putAt (.loop { state := .ready, pending := none, fn, tmps := a.tmps, params := ps, assign, body, defers := w.heap.size })).1
    refine ⟨_, _, _, _, run_yield hg' (by simpa using hvs x), roundIn_of_wpIn (F := Fence.wide) trivial ?_⟩
    have hO1 := hO
    rw [show X ++ blk l _ :: dfr D :: L1 = (X ++ [blk l _, dfr D]) ++ L1 from by rw [List.append_assoc]; rfl] at hO1
    have hA := hassign l pre x L1 _ _ hpx hS hO1 ⟨(ps.toList.zip (vs x)).foldl (fun t (p : Tmp × Value) => t.setIfInBounds p.1 p.2) a.tmps, []⟩ (Has.puts (N := ⟨N.n, [], some l⟩) ⟨Ha.size, rfl, Ha.get⟩ hps)
    have hfold : (ps.zip (vs x).toArray).foldl (fun (tmps : Array Value) (x : Tmp × Value) => match x with | (t, a) => tmps.setIfInBounds t a) a.tmps = (ps.toList.zip (vs x)).foldl (fun t (p : Tmp × Value) => t.setIfInBounds p.1 p.2) a.tmps := by
      rw [← Array.foldl_toList, Array.toList_zip]
    rw [← hfold] at hA
    refine Code.wpIn_mono (fun e a1 w1 h1 => ?_) hA
    cases e <;> try exact h1.elim
    obtain ⟨i, Ha1, hO2⟩ := h1
    have hO3 : Own w0 w1 ((E i x ++ X) ++ blk l (.loop { state := .ready, pending := none, fn, tmps := a.tmps, params := ps, assign, body, defers := w.heap.size }) :: dfr D :: L1) := by
      have h := hO2
      rw [List.append_assoc X, ← List.append_assoc (E i x)] at h
      exact h
    obtain ⟨hg3, hO4⟩ := hO3.putAt (.loop { state := .busy, pending := none, fn, tmps := a.tmps, params := ps, assign, body, defers := w.heap.size })
    refine ⟨_, run_beginRound hg3 rfl, ?_⟩
    have hO5 : Own w0 (w1.putObj l (.loop { state := .busy, pending := none, fn, tmps := a.tmps, params := ps, assign, body, defers := w.heap.size })) (E i x ++ ((X ++ [blk l (.loop { state := .busy, pending := none, fn, tmps := a.tmps, params := ps, assign, body, defers := w.heap.size }), dfr D]) ++ L1)) := by
      rw [List.append_assoc X, ← List.append_assoc (E i x)]
      exact hO4
    have hJ := hbody l i pre x L1 _ _ hpx hS hO5 _ Ha1
    refine Code.wpIn_mono (fun e a' w2 hp => ?_) hJ
    have key : ∀ (jump : Option Code) (L' : List HP), Own w0 w2 ((X ++ [blk l (.loop { state := .busy, pending := none, fn, tmps := a.tmps, params := ps, assign, body, defers := w.heap.size }), dfr D]) ++ L') →
        ∃ w3, (Instr.endRound l jump).run P w2 = .ok (.bool jump.isNone) w3 ∧ Own w0 w3 (X ++ blk l (.loop { state := if jump.isNone then .ready else .done, pending := jump, fn, tmps := a.tmps, params := ps, assign, body, defers := w.heap.size }) :: dfr D :: L') := by
      intro jump L' hO3
      rw [List.append_assoc] at hO3
      obtain ⟨hg3, hO4⟩ := Own.putAt (M := dfr D :: L') hO3 (.loop { state := if jump.isNone then .ready else .done, pending := jump, fn, tmps := a.tmps, params := ps, assign, body, defers := w.heap.size })
      exact ⟨_, run_endRound jump hg3, hO4⟩
    cases e with
    | normal =>
      obtain ⟨L', hS', hO3⟩ := hp
      obtain ⟨w3, hr, hO4⟩ := key none L' hO3
      exact ⟨_, w3, hr, true, _, rfl, ⟨L', rfl, hS'⟩, hO4⟩
    | ret =>
      obtain ⟨L', hS', hO3⟩ := hp
      obtain ⟨w3, hr, hO4⟩ := key (some .ret) L' hO3
      exact ⟨_, w3, hr, false, _, rfl, ⟨.ret, L', rfl, hS'⟩, hO4⟩
    | exit id =>
      obtain ⟨L', hS', hO3⟩ := hp
      obtain ⟨w3, hr, hO4⟩ := key (some (.exit id)) L' hO3
      exact ⟨_, w3, hr, false, _, rfl, ⟨.exit id, L', rfl, hS'⟩, hO4⟩
    | goto t => exact hp.elim
    | panic c => exact hp.elim
    | outgrown => exact hp.elim
  · -- the order of what is ours
    simp only [List.nil_append]
    refine List.Perm.trans ?_ (List.perm_middle (l₁ := A)).symm
    refine List.Perm.cons _ ?_
    exact (List.perm_middle (l₁ := A)).symm
/-- the assignment's end -/
theorem Ex.asg {α ι : Type} {F : ι → α → Fr} {E : ι → α → List HP} {x : α} {M : List HP} {N' : Sz} {R : Exit → Act → World → Prop} (i : ι) (hs : fr.sub (F i x)) (H : Own w0 w (E i x ++ M)) :
    Ex N' (Exit.then (fun a1 w1 => ∃ i, Has N' (F i x) a1 ∧ Own w0 w1 (E i x ++ M)) R) .normal fr w := fun _ Ha => ⟨i, Ha.sub hs, H⟩
/-- the body's end -/
theorem Ex.round {α : Type} {S : List α → List HP → Prop} {SX : Code → List α → List HP → Prop} {xs : List α} {X : List HP} (L' : List HP) (hS : S xs L') (H : Own w0 w (X ++ L')) : Ex N (rdPost S SX xs w0 X) .normal fr w := fun _ _ => ⟨L', hS, H⟩
theorem Ex.roundRet {α : Type} {S : List α → List HP → Prop} {SX : Code → List α → List HP → Prop} {xs : List α} {X : List HP} (L' : List HP) (hS : SX .ret xs L') (H : Own w0 w (X ++ L')) : Ex N (rdPost S SX xs w0 X) .ret fr w := fun _ _ => ⟨L', hS, H⟩
theorem Ex.roundExit {α : Type} {S : List α → List HP → Prop} {SX : Code → List α → List HP → Prop} {xs : List α} {X : List HP} {id : Nat} (L' : List HP) (hS : SX (.exit id) xs L') (H : Own w0 w (X ++ L')) : Ex N (rdPost S SX xs w0 X) (.exit id) fr w := fun _ _ => ⟨L', hS, H⟩
end
end Go.J
