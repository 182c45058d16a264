/-
  Lemmas for the statements of this seat; no statement is proved here. No condition.
-/
import Derived.Test.YtfbmgmdjaoackaaJBuild
import Derived.StillTail
namespace Go.J
set_option linter.unusedSimpArgs false
set_option linter.unusedVariables false
open Go.RowKit

/-! ## regions that draw their order -/
theorem starL_perm {L M : List HP} (hp : L.Perm M) : ∀ {h : Hp}, starL L h → starL M h := by
  induction hp with
  | nil => exact fun h => h
  | cons x _ ih => exact fun h => star_mono (fun _ h => h) (fun _ h => ih h) h
  | swap x y l => exact fun h => star_left_comm h
  | trans _ _ ih1 ih2 => exact fun h => ih2 (ih1 h)
theorem Own.perm {w0 w : World} {L M : List HP} (H : Own w0 w L) (hp : L.Perm M) : Own w0 w M := H.entail fun _ h => starL_perm hp h
/-- entry j comes to the front -/
theorem Own.front {w0 w : World} {L : List HP} (H : Own w0 w L) {A : HP} (j : Nat) (hi : L[j]? = some A) : Own w0 w (A :: L.eraseIdx j) := H.entail fun _ hs => starL_focus hi hs
theorem Own.right {w0 w : World} {M : List HP} : ∀ {X : List HP}, Own w0 w (X ++ M) → Own w0 w M := by
  intro X
  induction X with
  | nil => exact fun H => H
  | cons A X ih => exact fun H => ih (H.drop 0)
/-- what is known of an operation's value: it is c; or it is some v, with memory A v of its own (A' v behind operation s) -/
inductive Kn where
  | det (i : Nat) (d : Option Tmp) (c : Value)
  | nd (i : Nat) (d : Tmp) (s : Option Nat) (A A' : Value → HP)
def Kn.i : Kn → Nat
  | .det i _ _ => i
  | .nd i _ _ _ _ => i
def Kn.d : Kn → Option Tmp
  | .det _ d _ => d
  | .nd _ d _ _ _ => some d
def Kn.s : Kn → Option Nat
  | .det _ _ _ => none
  | .nd _ _ s _ _ => s
def Kn.val (vals : Nat → Value) : Kn → Value
  | .det _ _ c => c
  | .nd i _ _ _ _ => vals i
def Kn.hp (l : Nat → Bool) (vals : Nat → Value) : Kn → Option HP
  | .det _ _ _ => none
  | .nd i _ s A A' => bif l i then some ((bif (match s with | some s => l s | none => false) then A' else A) (vals i)) else none
def depsOf (af : Array Edge) (i : Nat) : Bool := af.toList.any fun e => Nat.beq e.on i && Region.binds .any e
/-- the frame that an operation may lean on -/
def frDet (dep : Nat → Bool) : List Kn → Fr → Fr
  | [], fr => fr
  | .det i (some d) c :: r, fr => bif dep i then (d, c) :: frDet dep r fr else frDet dep r fr
  | _ :: r, fr => frDet dep r fr
theorem Has.more {N : Sz} {fr : Fr} {a : Act} {t : Nat} {v : Value} (H : Has N fr a) (hv : a.tmps[t]? = some v) : Has N ((t, v) :: fr) a := by
  refine ⟨H.size, H.defers, fun u x e => ?_⟩
  simp only [Fr.get] at e
  by_cases ht : t = u
  · subst ht; simp at e; subst e; exact hv
  · have : Nat.beq t u = false := by
      cases hb : Nat.beq t u with
      | false => rfl
      | true => exact absurd (Nat.eq_of_beq_eq_true hb) ht
    rw [this] at e
    exact H.get u x (by simpa using e)
/-- the slots of what has come -/
def Come (vals : Nat → Value) (ks : List Kn) (S : Nat → Prop) (a : Act) : Prop := ∀ kn ∈ ks, S kn.i → ∀ d, kn.d = some d → a.tmps[d]? = some (kn.val vals)
theorem frDet_has {N : Sz} {fr : Fr} {a : Act} {vals : Nat → Value} {dep : Nat → Bool} (H : Has N fr a) : ∀ {ks : List Kn}, Come vals ks (fun i => dep i = true) a → Has N (frDet dep ks fr) a := by
  intro ks
  induction ks with
  | nil => intro _; exact H
  | cons kn ks ih =>
    intro hc
    have hr := ih (fun kn h => hc kn (List.mem_cons_of_mem _ h))
    cases kn with
    | det i d c =>
      cases d with
      | none => exact hr
      | some d =>
        simp only [frDet]
        cases hd : dep i with
        | false => exact hr
        | true => exact hr.more (hc _ List.mem_cons_self hd d rfl)
    | nd i d s A A' => exact hr
def Fr.keep (k : Nat → Bool) : Fr → Fr
  | [] => []
  | (t, v) :: r => bif k t then (t, v) :: Fr.keep k r else Fr.keep k r
theorem Fr.keep_get {k : Nat → Bool} : ∀ {fr : Fr} {t : Nat} {v : Value}, (fr.keep k).get t = some v → fr.get t = some v ∧ k t = true := by
  intro fr
  induction fr with
  | nil => intro t v h; cases h
  | cons p fr ih =>
    obtain ⟨u, x⟩ := p
    intro t v h
    simp only [Fr.keep] at h
    simp only [Fr.get]
    cases hd : k u with
    | true =>
      rw [hd] at h
      simp only [cond_true, Fr.get] at h
      cases hb : Nat.beq u t with
      | true => rw [hb] at h; rw [← Nat.eq_of_beq_eq_true hb]; exact ⟨by simpa using h, hd⟩
      | false => rw [hb] at h; exact ih (by simpa using h)
    | false =>
      rw [hd] at h
      simp only [cond_false] at h
      obtain ⟨h1, h2⟩ := ih h
      cases hb : Nat.beq u t with
      | true => rw [Nat.eq_of_beq_eq_true hb] at hd; rw [hd] at h2; cases h2
      | false => exact ⟨by simpa using h1, h2⟩
/-- what writes slot t comes behind operation i -/
def lateB (t i : Nat) : List Oper → Bool
  | [] => true
  | o :: r => (match o.dst with | some d => bif Nat.beq d t then depsOf o.after i else true | none => true) && lateB t i r
theorem lateB_spec {t i : Nat} : ∀ {l : List Oper}, lateB t i l = true → ∀ o ∈ l, o.dst = some t → depsOf o.after i = true := by
  intro l
  induction l with
  | nil => intro _ o h; cases h
  | cons x l ih =>
    intro h o ho hd
    simp only [lateB, Bool.and_eq_true] at h
    cases ho with
    | head => have := h.1; rw [hd] at this; simpa using this
    | tail _ ho => exact ih h.2 o ho hd
/-- what of the frame is still there when operation i comes -/
def frAtM (ops : Array Oper) (m n : Nat) (fr : Fr) (i : Nat) : Fr := fr.keep fun t => lateB t i ((ops.toList.take n).drop m)
def frAt (ops : Array Oper) (n : Nat) (fr : Fr) (i : Nat) : Fr := frAtM ops 0 n fr i

def onB (ops : Array Oper) (i j : Nat) : Bool := match ops[i]? with | some o => depsOf o.after j | none => false
/-- may operation i come when the first p writes are done, and no more? -/
def phOK (ops : Array Oper) (es : List Nat) (i p : Nat) : Bool := (es.take p).all (fun e => !(Nat.beq i e || onB ops e i)) && (es.drop p).all (fun e => !onB ops i e)
/-- each write waits for the one ahead -/
def esB (ops : Array Oper) : List Nat → Bool
  | [] => true
  | e :: r => Nat.blt e ops.size && r.all (fun e' => onB ops e' e) && esB ops r
/-- behind one operation -/
def AtOp (N : Sz) (w0 : World) (kn : Kn) (M : List HP) (a : Act) (w' : World) : Prop := a.defers = N.marks ∧ match kn with
  | .det _ d c => (∀ t, d = some t → a.tmps[t]? = some c) ∧ Own w0 w' M
  | .nd _ d _ A _ => ∃ v, a.tmps[d]? = some v ∧ Own w0 w' (A v :: M)
/-- how many writes are done behind operation i -/
def nextP (es : List Nat) (i p : Nat) : Nat := bif es.contains i then p + 1 else p
def frFin : List Kn → Fr → List HP → (Fr → List HP → Prop) → Prop
  | [], fr, M, k => k fr M
  | .det _ (some d) c :: r, fr, M, k => frFin r ((d, c) :: fr) M k
  | .det _ none _ :: r, fr, M, k => frFin r fr M k
  | .nd _ d s A A' :: r, fr, M, k => ∀ v, frFin r ((d, v) :: fr) ((bif s.isSome then A' else A) v :: M) k
section
variable (P : Program) (N : Sz) (ops : Array Oper) (Q : Exit → Act → World → Prop) (n : Nat) (es : List Nat) (Ls : Nat → List HP) (w0 : World) (fr0 : Nat → Fr) (Z : Fr → World → Prop)
/-- what an operation owes: by itself -/
def Ob (o : Oper) (i : Nat) (kn : Kn) (ks : List Kn) (fr : Fr) : Option Kn → Prop
  | some (.nd k d s A A') => Kn.nd k d s A A' ∈ ks ∧ depsOf o.after k = true ∧ (s = none ∨ s = some i ∧ ∃ c, kn = .det i none c) ∧ (∀ k' ∈ ks, k'.s = some i → k' = .nd k d s A A') ∧
      ∀ p a w X v, p ≤ es.length → phOK ops es i p = true → Own w0 w (A v :: (X ++ Ls p)) → Has N (frDet (depsOf o.after) ks fr) a → a.tmps[d]? = some v →
        wpListIn (wideR N.ro) 0 P ops (Exit.then (AtOp N w0 kn ((if s = some i then A' v else A v) :: (X ++ Ls (nextP es i p)))) Q) [o] a w
  | _ => (∀ k' ∈ ks, k'.s ≠ some i) ∧ ∀ p a w X, p ≤ es.length → phOK ops es i p = true → Own w0 w (X ++ Ls p) → Has N (frDet (depsOf o.after) ks fr) a →
        wpListIn (wideR N.ro) 0 P ops (Exit.then (AtOp N w0 kn (X ++ Ls (nextP es i p))) Q) [o] a w
def SOk (kn : Kn) : Prop := ∀ s, kn.s = some s → kn.i < s ∧ s < n ∧ onB ops s kn.i = true
/-- the operations of a region, each by itself -/
def JD : List Oper → Nat → List Kn → Prop
  | [], _, ks => ∀ w, frFin ks (fr0 n) (Ls es.length) fun fr M => Own w0 w M → Z fr w
  | o :: r, i, ks => ∃ kn dep, kn.i = i ∧ kn.d = o.dst ∧ SOk ops n kn ∧ Ob P N ops Q es Ls w0 o i kn ks (fr0 i) dep ∧ JD r (i + 1) (kn :: ks)
end
/-- slots are written once, and none that is known from before -/
def freshB : List Oper → Bool
  | [] => true
  | o :: r => (match o.dst with
    | some d => r.all fun o' => !(o'.dst == some d)
    | none => true) && freshB r

def backB (ops : Array Oper) : Bool :=
  (List.range ops.size).all fun i => match ops[i]? with
    | some o => o.after.toList.all fun e => !Region.binds .any e || decide (e.on < i)
    | none => true

def drawB (ops : Array Oper) (n : Nat) : Bool :=
  backB ops && decide (n ≤ ops.size) && (decide (n = ops.size) || (Region.sinkB .any ops n && Region.chainB .any ops n)) &&
    Region.seqB .any ops (ops.size - n) n (Array.replicate n true ++ Array.replicate (ops.size - n) false)

theorem Oper.wpIn_tmps {F : Fence} {k : Nat} {P : Program} {o : Oper} {a : Act} {w : World} {next : Act → World → Prop} {Q : Exit → Act → World → Prop} (h : o.wpIn F k P a w next Q) :
    o.wpIn F k P a w (fun a' w' => next a' w' ∧ ∃ v, a'.tmps = (a.put o.dst v).tmps) Q := by
  unfold Oper.wpIn at *
  refine ⟨h.1, ?_⟩
  have h := h.2
  generalize (o.semAt F.round a.eval).run P w = r at *
  cases r with
  | ok x w' =>
    cases x <;> simp only [Oper.uponIn] at h ⊢ <;>
      first
        | exact h
        | exact ⟨h, _, rfl⟩
        | (refine ⟨h, undef, ?_⟩; cases o.dst <;> rfl)
        | exact ⟨h.1, CallsIn.mono h.2 (fun e w'' he => by cases e <;> first | exact ⟨he, _, rfl⟩ | exact he)⟩
        | exact ⟨h.1, RowsIn.mono h.2 (fun _ _ he => ⟨he, _, rfl⟩)⟩
        | exact ⟨h.1, RoundIn.mono h.2 (fun e w'' he => by cases e <;> first | exact ⟨he, _, rfl⟩ | exact he)⟩
  | halt x w' => cases x <;> simp only [Oper.uponIn] at h ⊢ <;> exact h

theorem Oper.wpIn_exits {F : Fence} {k : Nat} {P : Program} {o : Oper} {a : Act} {w : World} {next : Act → World → Prop} {Q Q' : Exit → Act → World → Prop} (hq : ∀ e a w, e ≠ .normal → Q e a w → Q' e a w)
    (h : o.wpIn F k P a w next Q) : o.wpIn F k P a w next Q' := by
  unfold Oper.wpIn at *
  refine ⟨h.1, ?_⟩
  have h := h.2
  generalize (o.semAt F.round a.eval).run P w = r at *
  have hl : LetsOut Q → LetsOut Q' := fun ⟨a, w, x⟩ => ⟨a, w, hq _ _ _ (by simp) x⟩
  cases r with
  | ok x w' =>
    cases x <;> simp only [Oper.uponIn] at h ⊢ <;>
      first
        | exact h
        | exact ⟨h.1, CallsIn.mono h.2 (fun e w'' he => by cases e <;> first | exact he | exact hq _ _ _ (by simp) he | exact hl he)⟩
        | exact ⟨h.1, RoundIn.mono h.2 (fun e w'' he => by cases e <;> first | exact he | exact hq _ _ _ (by simp) he | exact hl he)⟩
  | halt x w' => cases x <;> simp only [Oper.uponIn] at h ⊢ <;> first | exact h | exact hq _ _ _ (by simp) h

theorem freshB_spec : ∀ {l : List Oper}, freshB l = true → ∀ (p : Nat) (o : Oper) (d : Tmp), l[p]? = some o → o.dst = some d →
    ∀ (q : Nat) (o' : Oper), q ≠ p → l[q]? = some o' → o'.dst ≠ some d := by
  intro l
  induction l with
  | nil => intro _ p o d h; simp at h
  | cons x l ih =>
    intro h p o d hp hd
    simp only [freshB, Bool.and_eq_true] at h
    obtain ⟨h1, h2⟩ := h
    cases p with
    | zero =>
      simp at hp
      subst hp
      rw [hd] at h1
      intro q o' hq ho'
      cases q with
      | zero => exact absurd rfl hq
      | succ q =>
        simp at ho'
        have := List.all_eq_true.1 h1 o' (List.mem_of_getElem? ho')
        simpa using this
    | succ p =>
      simp at hp
      have g2 := ih h2 p o d hp hd
      intro q o' hq ho'
      cases q with
      | zero =>
        simp at ho'
        subst ho'
        intro he
        rw [he] at h1
        have := List.all_eq_true.1 h1 o (List.mem_of_getElem? hp)
        simp [hd] at this
      | succ q => simp at ho'; exact g2 q o' (by omega) ho'

section
variable {P : Program} {N : Sz} {ops : Array Oper} {Q : Exit → Act → World → Prop} {n : Nat} {es : List Nat} {Ls : Nat → List HP} {w0 : World} {fr0 : Nat → Fr} {Z : Fr → World → Prop}
theorem backB_spec {ops : Array Oper} (h : backB ops = true) {i : Nat} {o : Oper} (ho : ops[i]? = some o) {e : Edge} (he : e ∈ o.after) (hb : Region.binds .any e = true) : e.on < i := by
  have hi : i < ops.size := (Array.getElem?_eq_some_iff.1 ho).1
  have h1 := List.all_eq_true.1 h i (List.mem_range.2 hi)
  rw [ho] at h1
  have h2 := List.all_eq_true.1 h1 e (Array.mem_toList_iff.2 he)
  simpa [hb] using h2


theorem JD.spread : ∀ {l : List Oper} {i : Nat} {ks : List Kn}, JD P N ops Q n es Ls w0 fr0 Z l i ks → (∀ kn ∈ ks, kn.i < i) → ks.Nodup → (∀ k1 ∈ ks, ∀ k2 ∈ ks, k1.i = k2.i → k1 = k2) → (∀ kn ∈ ks, SOk ops n kn) →
    ∃ KS : List Kn, (∀ kn ∈ ks, kn ∈ KS) ∧ KS.Nodup ∧ (∀ k1 ∈ KS, ∀ k2 ∈ KS, k1.i = k2.i → k1 = k2) ∧ (∀ kn ∈ KS, SOk ops n kn) ∧
      (∀ w, frFin KS (fr0 n) (Ls es.length) fun fr M => Own w0 w M → Z fr w) ∧
      (∀ kn ∈ KS, kn ∈ ks ∨ (i ≤ kn.i ∧ kn.i < i + l.length)) ∧
      ∀ (p : Nat) (o : Oper), l[p]? = some o → ∃ kn dep ks', kn.i = i + p ∧ kn ∈ KS ∧ kn.d = o.dst ∧ (∀ k ∈ ks', k ∈ KS) ∧ (∀ k ∈ KS, k.i < i + p → k ∈ ks') ∧ Ob P N ops Q es Ls w0 o (i + p) kn ks' (fr0 (i + p)) dep := by
  intro l
  induction l with
  | nil => intro i ks h hi hn hu hs; exact ⟨ks, fun _ h => h, hn, hu, hs, h, fun _ h => .inl h, fun p o h => by simp at h⟩
  | cons x l ih =>
    intro i ks h hi hn hu hs
    obtain ⟨kn, dep, e1, e2, e3, e4, h'⟩ := h
    have hnew : kn ∉ ks := fun h => by have := hi kn h; omega
    obtain ⟨KS, g1, g2, g3, g4, g5, g6, g7⟩ := ih h' (by intro k hk; cases hk with | head => omega | tail _ hk => have := hi k hk; omega) (List.nodup_cons.2 ⟨hnew, hn⟩)
      (by
        intro k1 h1 k2 h2 h12
        cases h1 with
        | head => cases h2 with
          | head => rfl
          | tail _ h2 => have := hi k2 h2; omega
        | tail _ h1 => cases h2 with
          | head => have := hi k1 h1; omega
          | tail _ h2 => exact hu k1 h1 k2 h2 h12)
      (by intro k hk; cases hk with | head => exact e3 | tail _ hk => exact hs k hk)
    refine ⟨KS, fun k hk => g1 k (List.mem_cons_of_mem _ hk), g2, g3, g4, g5, fun k hk => ?_, fun p o hp => ?_⟩
    · rcases g6 k hk with h | h
      · cases h with
        | head => right; simp; omega
        | tail _ h => exact .inl h
      · right; simp; omega
    · cases p with
      | zero =>
        simp at hp
        subst hp
        refine ⟨kn, dep, ks, by omega, g1 _ List.mem_cons_self, e2, fun k hk => g1 k (List.mem_cons_of_mem _ hk), fun k hk hki => ?_, e4⟩
        rcases g6 k hk with h | h
        · cases h with
          | head => omega
          | tail _ h => exact h
        · omega
      | succ p =>
        simp at hp
        obtain ⟨kn', dep', ks', f1, f2, f3, f4, f5, f6⟩ := g7 p o hp
        exact ⟨kn', dep', ks', by omega, f2, f3, f4, fun k hk hki => f5 k hk (by omega), by rw [show i + (p + 1) = i + 1 + p by omega]; exact f6⟩
theorem least_unlisted {listed : Array Bool} {n : Nat} : ∀ m, m < n → listed.getD m false = false → ∃ i, i < n ∧ listed.getD i false = false ∧ ∀ j, j < i → listed.getD j false = true := by
  intro m
  induction m using Nat.strongRecOn with
  | _ m ih =>
    intro hm hl
    by_cases h : ∃ j, j < m ∧ listed.getD j false = false
    · obtain ⟨j, hj, hj'⟩ := h
      exact ih j hj (by omega) hj'
    · refine ⟨m, hm, hl, fun j hj => ?_⟩
      cases hc : listed.getD j false with
      | true => rfl
      | false => exact absurd ⟨j, hj, hc⟩ h

/-- the values from before that are not written over -/
structure Old (N : Sz) (ops : Array Oper) (m n : Nat) (fr : Fr) (listed : Array Bool) (a : Act) : Prop where
  size : a.tmps.size = N.n
  defers : a.defers = N.marks
  get : ∀ t v, fr.get t = some v → (∀ (j : Nat) (o : Oper), m ≤ j → j < n → ops[j]? = some o → o.dst = some t → listed.getD j false = false) → a.tmps[t]? = some v
theorem depsOf_spec {af : Array Edge} {i : Nat} (h : depsOf af i = true) : ∃ e ∈ af, e.on = i ∧ Region.binds .any e = true := by
  simp only [depsOf, List.any_eq_true, Bool.and_eq_true] at h
  obtain ⟨e, he, h1, h2⟩ := h
  exact ⟨e, Array.mem_toList_iff.1 he, Nat.eq_of_beq_eq_true h1, h2⟩
theorem Old.at {N : Sz} {ops : Array Oper} {m n : Nat} {fr : Fr} {listed : Array Bool} {a : Act} (H : Old N ops m n fr listed a) {i : Nat} (inv : HeadInv .any ops n listed) (hl : listed.getD i false = false) : Has N (frAtM ops m n fr i) a := by
  refine ⟨H.size, H.defers, fun t v e => ?_⟩
  obtain ⟨h1, h2⟩ := Fr.keep_get e
  refine H.get t v h1 fun j o hmj hj ho hd => ?_
  have h3 := lateB_spec h2 o (List.mem_of_getElem? (i := j - m) (by rw [List.getElem?_drop, List.getElem?_take, show m + (j - m) = j by omega]; simp [hj, ho])) hd
  obtain ⟨e, he, h4, h5⟩ := depsOf_spec h3
  cases hc : listed.getD j false with
  | false => rfl
  | true =>
    have := inv.closed j o ho hc e he h5
    rw [h4, hl] at this; cases this
theorem Old.atEnd {N : Sz} {ops : Array Oper} {m n : Nat} {fr : Fr} {listed : Array Bool} {a : Act} (H : Old N ops m n fr listed a) (hb : backB ops = true) : Has N (frAtM ops m n fr n) a := by
  refine ⟨H.size, H.defers, fun t v e => ?_⟩
  obtain ⟨h1, h2⟩ := Fr.keep_get e
  refine H.get t v h1 fun j o hmj hj ho hd => ?_
  have h3 := lateB_spec h2 o (List.mem_of_getElem? (i := j - m) (by rw [List.getElem?_drop, List.getElem?_take, show m + (j - m) = j by omega]; simp [hj, ho])) hd
  obtain ⟨e, he, h4, h5⟩ := depsOf_spec h3
  have := backB_spec hb ho he h5
  omega

theorem esB_spec {ops : Array Oper} : ∀ {es : List Nat}, esB ops es = true → ∀ (p q e e' : Nat), p < q → es[p]? = some e → es[q]? = some e' → onB ops e' e = true := by
  intro es
  induction es with
  | nil => intro _ p q e e' _ h; simp at h
  | cons x r ih =>
    intro h p q e e' hpq h1 h2
    simp only [esB, Bool.and_eq_true] at h
    cases q with
    | zero => omega
    | succ q =>
      simp at h2
      cases p with
      | zero =>
        simp at h1
        subst h1
        exact List.all_eq_true.1 h.1.2 e' (List.mem_of_getElem? h2)
      | succ p => simp at h1; exact ih h.2 p q e e' (by omega) h1 h2
theorem onB_spec {ops : Array Oper} {i j : Nat} (h : onB ops i j = true) : ∃ o, ops[i]? = some o ∧ depsOf o.after j = true := by
  unfold onB at h
  split at h
  · rename_i o ho; exact ⟨o, ho, h⟩
  · cases h
theorem es_inj {ops : Array Oper} (hb : backB ops = true) {es : List Nat} (h : esB ops es = true) {p q i : Nat} (h1 : es[p]? = some i) (h2 : es[q]? = some i) : p = q := by
  have key : ∀ (p q : Nat), p < q → es[p]? = some i → es[q]? = some i → False := by
    intro p q hpq h1 h2
    obtain ⟨o, ho, hd⟩ := onB_spec (esB_spec h p q i i hpq h1 h2)
    obtain ⟨x, hx, h4, h5⟩ := depsOf_spec hd
    have := backB_spec hb ho hx h5
    omega
  rcases Nat.lt_trichotomy p q with hpq | hpq | hpq
  · exact (key p q hpq h1 h2).elim
  · exact hpq
  · exact (key q p hpq h2 h1).elim
theorem wpList_exit {P : Program} {N : Sz} {ops : Array Oper} {K K' : Act → World → Prop} {Q : Exit → Act → World → Prop} {o : Oper} {a : Act} {w : World} (hk : ∀ a w, K a w → K' a w) (h : wpListIn (wideR N.ro) 0 P ops (Exit.then K Q) [o] a w) :
    wpListIn (wideR N.ro) 0 P ops (Exit.then K' Q) [o] a w := by
  unfold wpListIn at h ⊢
  split at h
  · rename_i hwant
    rw [if_pos hwant]
    refine Oper.wpIn_exits (fun e a w hne q => ?_) (Oper.wpIn_mono (fun a' w' hh => hk _ _ hh) h)
    cases e <;> first | exact absurd rfl hne | exact q
  · rename_i hwant
    rw [if_neg hwant]
    exact ⟨fun _ _ => trivial, hk _ _ h.2⟩
theorem fm_congr {α β : Type} {f g : α → Option β} : ∀ {l : List α}, (∀ y ∈ l, g y = f y) → l.filterMap g = l.filterMap f := by
  intro l
  induction l with
  | nil => intro _; rfl
  | cons x l ih =>
    intro h
    simp only [List.filterMap_cons, h x List.mem_cons_self, ih fun y hy => h y (List.mem_cons_of_mem _ hy)]
theorem fm_add {α β : Type} {f g : α → Option β} {x : α} {b : β} : ∀ {l : List α}, l.Nodup → x ∈ l → f x = none → g x = some b → (∀ y ∈ l, y ≠ x → g y = f y) → (l.filterMap g).Perm (b :: l.filterMap f) := by
  intro l
  induction l with
  | nil => intro _ h; cases h
  | cons y l ih =>
    intro hn hx hf hg he
    rw [List.nodup_cons] at hn
    by_cases hyx : y = x
    · subst hyx
      simp only [List.filterMap_cons, hf, hg]
      rw [fm_congr fun z hz => he z (List.mem_cons_of_mem _ hz) (fun h => hn.1 (h ▸ hz))]
    · have hx' : x ∈ l := by
        cases hx with
        | head => exact absurd rfl hyx
        | tail _ h => exact h
      have := ih hn.2 hx' hf hg fun z hz => he z (List.mem_cons_of_mem _ hz)
      simp only [List.filterMap_cons, he y List.mem_cons_self hyx]
      cases f y with
      | none => exact this
      | some c => exact (this.cons c).trans (List.Perm.swap _ _ _)
theorem fm_swap {α β : Type} {f g : α → Option β} {x : α} {b b' : β} : ∀ {l : List α}, l.Nodup → x ∈ l → f x = some b → g x = some b' → (∀ y ∈ l, y ≠ x → g y = f y) →
    ∃ r, (l.filterMap f).Perm (b :: r) ∧ (l.filterMap g).Perm (b' :: r) := by
  intro l
  induction l with
  | nil => intro _ h; cases h
  | cons y l ih =>
    intro hn hx hf hg he
    rw [List.nodup_cons] at hn
    by_cases hyx : y = x
    · subst hyx
      simp only [List.filterMap_cons, hf, hg]
      rw [fm_congr fun z hz => he z (List.mem_cons_of_mem _ hz) (fun h => hn.1 (h ▸ hz))]
      exact ⟨_, List.Perm.refl _, List.Perm.refl _⟩
    · have hx' : x ∈ l := by
        cases hx with
        | head => exact absurd rfl hyx
        | tail _ h => exact h
      obtain ⟨r, h1, h2⟩ := ih hn.2 hx' hf hg fun z hz => he z (List.mem_cons_of_mem _ hz)
      simp only [List.filterMap_cons, he y List.mem_cons_self hyx]
      cases f y with
      | none => exact ⟨r, h1, h2⟩
      | some c => exact ⟨c :: r, (h1.cons c).trans (List.Perm.swap _ _ _), (h2.cons c).trans (List.Perm.swap _ _ _)⟩
/-- how far the region has come -/
def Ahead (KS : List Kn) (es : List Nat) (Ls : Nat → List HP) (w0 : World) (listed : Array Bool) (a : Act) (w : World) : Prop :=
  ∃ p vals, p ≤ es.length ∧ (∀ q e, es[q]? = some e → (listed.getD e false = true ↔ q < p)) ∧ Come vals KS (fun i => listed.getD i false = true) a ∧
    Own w0 w (KS.filterMap (Kn.hp (fun i => listed.getD i false) vals) ++ Ls p)
theorem phase_ok {n p : Nat} {listed : Array Bool} (h3 : ∀ q e, es[q]? = some e → (listed.getD e false = true ↔ q < p)) {i : Nat} (inv : HeadInv .any ops n listed) (hl : listed.getD i false = false)
    {o : Oper} (ho : ops[i]? = some o) (hdeps : ∀ e ∈ o.after, Region.binds .any e = true → listed.getD e.on false = true) : phOK ops es i p = true := by
  simp only [phOK, Bool.and_eq_true]
  refine ⟨List.all_eq_true.2 fun e he => ?_, List.all_eq_true.2 fun e he => ?_⟩
  · obtain ⟨q, hq⟩ := List.getElem?_of_mem he
    rw [List.getElem?_take] at hq
    split at hq
    · rename_i hqp
      have hle := (h3 q e hq).2 hqp
      cases hc : (Nat.beq i e || onB ops e i) with
      | false => rfl
      | true =>
        exfalso
        simp only [Bool.or_eq_true] at hc
        rcases hc with hc | hc
        · rw [← Nat.eq_of_beq_eq_true hc, hl] at hle; cases hle
        · obtain ⟨o', ho', hd⟩ := onB_spec hc
          obtain ⟨x, hx, h4, h5⟩ := depsOf_spec hd
          have := inv.closed e o' ho' hle x hx h5
          rw [h4, hl] at this; cases this
    · cases hq
  · obtain ⟨q, hq⟩ := List.getElem?_of_mem he
    rw [List.getElem?_drop] at hq
    cases hc : onB ops i e with
    | false => rfl
    | true =>
      exfalso
      obtain ⟨o', ho', hd⟩ := onB_spec hc
      rw [ho] at ho'
      cases ho'
      obtain ⟨x, hx, h4, h5⟩ := depsOf_spec hd
      have h6 := hdeps x hx h5
      rw [h4] at h6
      have := (h3 _ e hq).1 h6
      omega
theorem phase_next {p : Nat} {listed : Array Bool} (h1 : p ≤ es.length) (h3 : ∀ q e, es[q]? = some e → (listed.getD e false = true ↔ q < p)) {i : Nat} (hi : i < listed.size) (hl : listed.getD i false = false) (hb : backB ops = true) (hes : esB ops es = true)
    {o : Oper} (ho : ops[i]? = some o) (hdeps : ∀ e ∈ o.after, Region.binds .any e = true → listed.getD e.on false = true) :
    nextP es i p ≤ es.length ∧ ∀ q e, es[q]? = some e → ((listed.setIfInBounds i true).getD e false = true ↔ q < nextP es i p) := by
  cases hc : es.contains i with
  | false =>
    simp only [nextP, hc, cond_false]
    refine ⟨h1, fun q e hq => ?_⟩
    have hne : i ≠ e := by
      rintro rfl
      have := List.mem_of_getElem? hq
      simp at hc
      exact hc this
    rw [getD_set_ne false hne]
    exact h3 q e hq
  | true =>
    simp only [nextP, hc, cond_true]
    have hmem : i ∈ es := by simpa using hc
    obtain ⟨q, hq⟩ := List.getElem?_of_mem hmem
    have hp : p = q := by
      have h4 : ¬ q < p := fun h => by rw [(h3 q i hq).2 h] at hl; cases hl
      rcases Nat.lt_or_ge p q with hpq | hpq
      · exfalso
        have hpl : p < es.length := by
          have := (List.getElem?_eq_some_iff.1 hq).1
          omega
        have hpe : es[p]? = some es[p] := List.getElem?_eq_getElem hpl
        obtain ⟨o', ho', hd⟩ := onB_spec (esB_spec hes p q es[p] i hpq hpe hq)
        rw [ho] at ho'
        cases ho'
        obtain ⟨x, hx, h5, h6⟩ := depsOf_spec hd
        have h7 := hdeps x hx h6
        rw [h5] at h7
        have := (h3 p es[p] hpe).1 h7
        omega
      · omega
    subst hp
    refine ⟨(List.getElem?_eq_some_iff.1 hq).1, fun q' e hq' => ?_⟩
    by_cases hie : i = e
    · subst hie
      have := es_inj hb hes hq hq'
      subst this
      simp [hi]
    · rw [getD_set_ne false hie, h3 q' e hq']
      have : q' ≠ p := by rintro rfl; rw [hq] at hq'; cases hq'; exact hie rfl
      omega
theorem AtOp.perm {N : Sz} {w0 : World} {kn : Kn} {M M' : List HP} {a : Act} {w : World} (h : AtOp N w0 kn M a w) (hp : M.Perm M') : AtOp N w0 kn M' a w := by
  obtain ⟨h1, h2⟩ := h
  refine ⟨h1, ?_⟩
  cases kn with
  | det i d c => exact ⟨h2.1, h2.2.perm hp⟩
  | nd i d s A A' => obtain ⟨v, h3, h4⟩ := h2; exact ⟨v, h3, h4.perm (hp.cons _)⟩
theorem hp_other {l l' : Nat → Bool} {vals vals' : Nat → Value} {i : Nat} {k : Kn} (hl : ∀ j, j ≠ i → l' j = l j) (hv : ∀ j, j ≠ i → vals' j = vals j) (hk : k.i ≠ i) (hs : k.s ≠ some i) : k.hp l' vals' = k.hp l vals := by
  cases k with
  | det => rfl
  | nd j d s A A' =>
    have hj : j ≠ i := hk
    simp only [Kn.hp, hl j hj, hv j hj]
    cases s with
    | none => rfl
    | some s =>
      have : s ≠ i := fun h => hs (by rw [← h]; rfl)
      simp only [hl s this]
/-- one more operation is done -/
theorem Ahead.next {KS ks' : List Kn} {listed : Array Bool} {a a' : Act} {w' : World} {vals : Nat → Value} {p' i : Nat} {o : Oper} {kn : Kn} (hN : KS.Nodup) (hU : ∀ k1 ∈ KS, ∀ k2 ∈ KS, k1.i = k2.i → k1 = k2) (hS : ∀ k ∈ KS, SOk ops n k)
    (inv : HeadInv .any ops n listed) (hi : i < listed.size) (hl : listed.getD i false = false) (ho : ops[i]? = some o) (hin : i < n) (hfresh : freshB (ops.toList.take n) = true)
    (hki : kn.i = i) (hkm : kn ∈ KS) (hkd : kn.d = o.dst) (hdst : ∀ k ∈ KS, k.i < n ∧ ∀ ok, ops[k.i]? = some ok → k.d = ok.dst) (hearly : ∀ k ∈ KS, k.i < i → k ∈ ks') (hno : ∀ k' ∈ ks', k'.s ≠ some i)
    (hC : Come vals KS (fun j => listed.getD j false = true) a) (hp1 : p' ≤ es.length) (hp2 : ∀ q e, es[q]? = some e → ((listed.setIfInBounds i true).getD e false = true ↔ q < p'))
    (hat : AtOp N w0 kn (KS.filterMap (Kn.hp (fun j => listed.getD j false) vals) ++ Ls p') a' w') (ht : ∃ v, a'.tmps = (a.put o.dst v).tmps) : Ahead KS es Ls w0 (listed.setIfInBounds i true) a' w' := by
  have hll : ∀ j, j ≠ i → (listed.setIfInBounds i true).getD j false = listed.getD j false := fun j hj => getD_set_ne false (fun h => hj h.symm)
  have hli : (listed.setIfInBounds i true).getD i false = true := by simp [hi]
  have hns : ∀ k ∈ KS, k.s ≠ some i := by
    intro k hk hs
    have := (hS k hk i hs).1
    exact hno k (hearly k hk this) hs
  obtain ⟨u, ht⟩ := ht
  have hother : ∀ t, o.dst ≠ some t → a'.tmps[t]? = a.tmps[t]? := by
    intro t hne
    rw [ht]
    cases hod : o.dst with
    | none => rfl
    | some d => simp only [Act.put]; rw [Array.getElem?_setIfInBounds_ne]; intro h; subst h; exact hne hod
  have hpo : (ops.toList.take n)[i]? = some o := by simp [hin, ho]
  have hslot : ∀ (vals' : Nat → Value), (∀ j, j ≠ i → vals' j = vals j) → (∀ d, kn.d = some d → a'.tmps[d]? = some (kn.val vals')) → Come vals' KS (fun j => (listed.setIfInBounds i true).getD j false = true) a' := by
    intro vals' hv hkv k hk hS' d' hd'
    by_cases hki' : k.i = i
    · have := hU k hk kn hkm (by omega)
      subst this
      exact hkv d' hd'
    · have hS2 : listed.getD k.i false = true := by rw [← hll k.i hki']; exact hS'
      have h1 := hC k hk hS2 d' hd'
      have hval : k.val vals' = k.val vals := by
        cases k with
        | det => rfl
        | nd j d s A A' => exact hv j hki'
      rw [hval, hother d' (fun hdt => ?_)]
      · exact h1
      · obtain ⟨hkn, hkd'⟩ := hdst k hk
        obtain ⟨ok, hok⟩ : ∃ ok, ops[k.i]? = some ok := by
          have := inv.size
          have hlt : k.i < listed.size := by
            rcases Nat.lt_or_ge k.i listed.size with h | h
            · exact h
            · simp [Array.getElem?_eq_none h] at hS2
          exact ⟨_, Array.getElem?_eq_getElem (by omega)⟩
        have hpk : (ops.toList.take n)[k.i]? = some ok := by simp [hkn, hok]
        exact (freshB_spec hfresh i o d' hpo hdt) k.i ok hki' hpk (by rw [← hkd' ok hok]; exact hd')
  cases kn with
  | det i' d c =>
    have hki' : i' = i := hki
    subst hki'
    obtain ⟨_, h2, h3⟩ := hat
    refine ⟨p', vals, hp1, hp2, hslot vals (fun _ _ => rfl) h2, ?_⟩
    rw [fm_congr (f := Kn.hp (fun j => listed.getD j false) vals)]
    · exact h3
    · intro k hk
      by_cases hki' : k.i = i'
      · have := hU k hk _ hkm hki'
        subst this
        rfl
      · exact hp_other (i := i') hll (fun _ _ => rfl) hki' (hns k hk)
  | nd i' d s A A' =>
    have hki' : i' = i := hki
    subst hki'
    obtain ⟨_, v, h2, h3⟩ := hat
    have hvv : ∀ j, j ≠ i' → (fun j => if j = i' then v else vals j) j = vals j := fun j hj => by simp [hj]
    refine ⟨p', fun j => if j = i' then v else vals j, hp1, hp2, hslot _ hvv (fun d' hd' => by cases hd'; simpa [Kn.val] using h2), ?_⟩
    have hperm := fm_add (f := Kn.hp (fun j => listed.getD j false) vals) (g := Kn.hp (fun j => (listed.setIfInBounds i' true).getD j false) (fun j => if j = i' then v else vals j)) (x := Kn.nd i' d s A A') (b := A v) hN hkm
      (by simp only [Kn.hp, hl, cond_false]) (by
        simp only [Kn.hp, hli, cond_true, if_true]
        have hsl : ∀ s', s = some s' → (listed.setIfInBounds i' true).getD s' false = false := by
          rintro s rfl
          obtain ⟨hlt, hsn, hon⟩ := hS _ hkm s rfl
          have hlt' : i' < s := hlt
          rw [hll s (by omega)]
          cases hc : listed.getD s false with
          | false => rfl
          | true =>
            exfalso
            obtain ⟨os, hos, hd⟩ := onB_spec hon
            obtain ⟨x, hx, h4, h5⟩ := depsOf_spec hd
            have h6 := inv.closed s os hos hc x hx h5
            have h7 : x.on = i' := h4
            rw [h7, hl] at h6; cases h6
        clear hslot hki hkd
        cases s with
        | none => rfl
        | some s' => simp only [hsl s' rfl, cond_false])
      (by
        intro y hy hne
        have hyi : y.i ≠ i' := fun h => hne (hU y hy _ hkm h)
        exact hp_other (i := i') hll hvv hyi (hns y hy))
    refine h3.perm ?_
    have h5 := hperm.symm.append_right (Ls p')
    exact h5
theorem Ahead.step {KS ks' : List Kn} {listed : Array Bool} {a : Act} {w : World} {i : Nat} {o : Oper} {kn : Kn} {dep : Option Kn} (HA : Ahead KS es Ls w0 listed a w) (hN : KS.Nodup) (hU : ∀ k1 ∈ KS, ∀ k2 ∈ KS, k1.i = k2.i → k1 = k2) (hS : ∀ k ∈ KS, SOk ops n k)
    (hb : backB ops = true) (hes : esB ops es = true) (inv : HeadInv .any ops n listed) (hi : i < listed.size) (hl : listed.getD i false = false) (ho : ops[i]? = some o) (hdeps : ∀ e ∈ o.after, Region.binds .any e = true → listed.getD e.on false = true)
    (hin : i < n) (hfresh : freshB (ops.toList.take n) = true) (hki : kn.i = i) (hkm : kn ∈ KS) (hkd : kn.d = o.dst) (hdst : ∀ k ∈ KS, k.i < n ∧ ∀ ok, ops[k.i]? = some ok → k.d = ok.dst) (hks : ∀ k ∈ ks', k ∈ KS) (hearly : ∀ k ∈ KS, k.i < i → k ∈ ks')
    {fr : Fr} (Hf : Has N fr a) (hob : Ob P N ops Q es Ls w0 o i kn ks' fr dep) :
    ∃ Post : Act → World → Prop, wpListIn (wideR N.ro) 0 P ops (Exit.then Post Q) [o] a w ∧ ∀ a' w', Post a' w' → (∃ v, a'.tmps = (a.put o.dst v).tmps) → a'.defers = N.marks ∧ Ahead KS es Ls w0 (listed.setIfInBounds i true) a' w' := by
  obtain ⟨p, vals, h1, h3, hC, hO⟩ := HA
  have hph := phase_ok h3 inv hl ho hdeps
  obtain ⟨hn1, hn2⟩ := phase_next h1 h3 hi hl hb hes ho hdeps
  have Hfr : Has N (frDet (depsOf o.after) ks' fr) a := frDet_has Hf (vals := vals) fun k hk hj d hd => hC k (hks k hk) (by
    obtain ⟨x, hx, h4, h5⟩ := depsOf_spec hj
    have := hdeps x hx h5
    rwa [h4] at this) d hd
  have plain : ∀ (hno : ∀ k' ∈ ks', k'.s ≠ some i) a' w', AtOp N w0 kn (KS.filterMap (Kn.hp (fun j => listed.getD j false) vals) ++ Ls (nextP es i p)) a' w' → (∃ v, a'.tmps = (a.put o.dst v).tmps) →
      a'.defers = N.marks ∧ Ahead KS es Ls w0 (listed.setIfInBounds i true) a' w' := fun hno a' w' hat ht =>
    ⟨hat.1, Ahead.next hN hU hS inv hi hl ho hin hfresh hki hkm hkd hdst hearly hno hC hn1 hn2 hat ht⟩
  have first : ((∀ k' ∈ ks', k'.s ≠ some i) ∧ ∀ p a w X, p ≤ es.length → phOK ops es i p = true → Own w0 w (X ++ Ls p) → Has N (frDet (depsOf o.after) ks' fr) a →
        wpListIn (wideR N.ro) 0 P ops (Exit.then (AtOp N w0 kn (X ++ Ls (nextP es i p))) Q) [o] a w) → ∃ Post : Act → World → Prop, wpListIn (wideR N.ro) 0 P ops (Exit.then Post Q) [o] a w ∧ ∀ a' w', Post a' w' → (∃ v, a'.tmps = (a.put o.dst v).tmps) →
          a'.defers = N.marks ∧ Ahead KS es Ls w0 (listed.setIfInBounds i true) a' w' := fun h => ⟨_, h.2 p a w _ h1 hph hO Hfr, plain h.1⟩
  cases dep with
  | none => exact first hob
  | some k0 =>
    cases k0 with
    | det => exact first hob
    | nd k d s A A' =>
      obtain ⟨hk0, hkdep, hs, huniq, hob⟩ := hob
      have hk0m := hks _ hk0
      have hkl : listed.getD k false = true := by
        obtain ⟨x, hx, h4, h5⟩ := depsOf_spec hkdep
        have := hdeps x hx h5
        rwa [h4] at this
      have hslot : a.tmps[d]? = some (vals k) := hC _ hk0m hkl d rfl
      have hcur : Kn.hp (fun j => listed.getD j false) vals (.nd k d s A A') = some (A (vals k)) := by
        simp only [Kn.hp, hkl, cond_true]
        rcases hs with rfl | ⟨rfl, _⟩
        · rfl
        · simp only [hl, cond_false]
      rcases hs with rfl | ⟨rfl, c, rfl⟩
      · obtain ⟨r, hr1, _⟩ := fm_swap (f := Kn.hp (fun j => listed.getD j false) vals) (g := Kn.hp (fun j => listed.getD j false) vals) hN hk0m hcur hcur (fun _ _ _ => rfl)
        have hO' : Own w0 w (A (vals k) :: (r ++ Ls p)) := hO.perm (hr1.append_right _)
        have hw := hob p a w r (vals k) h1 hph hO' Hfr hslot
        refine ⟨_, hw, fun a' w' hat ht => plain (fun k' hk' hs' => ?_) a' w' (hat.perm ?_) ht⟩
        · have := huniq k' hk' hs'
          subst this
          cases hs'
        · simp only [reduceCtorEq, if_false]
          exact (hr1.append_right _).symm
      · obtain ⟨r, hr1, hr2⟩ := fm_swap (f := Kn.hp (fun j => listed.getD j false) vals) (g := Kn.hp (fun j => (listed.setIfInBounds i true).getD j false) vals) (b' := A' (vals k)) hN hk0m hcur (by
            have hki' : k ≠ i := by rintro rfl; rw [hl] at hkl; cases hkl
            have h6 : (listed.setIfInBounds i true).getD k false = true := by rw [getD_set_ne false (fun h => hki' h.symm)]; exact hkl
            have h7 : (listed.setIfInBounds i true).getD i false = true := by simp [hi]
            simp only [Kn.hp, h6, h7, cond_true]) (by
            intro y hy hne
            by_cases hyi : y.i = i
            · have := hU y hy _ hkm (by rw [hyi]; exact hki.symm)
              subst this
              rfl
            · refine hp_other (i := i) (fun j hj => getD_set_ne false (fun h => hj h.symm)) (fun _ _ => rfl) hyi (fun hs' => ?_)
              have := (hS y hy i hs').1
              exact hne (huniq y (hearly y hy this) hs'))
        have hO' : Own w0 w (A (vals k) :: (r ++ Ls p)) := hO.perm (hr1.append_right _)
        have hw := hob p a w r (vals k) h1 hph hO' Hfr hslot
        refine ⟨_, hw, fun a' w' hat ht => ⟨hat.1, nextP es i p, vals, hn1, hn2, ?_, ?_⟩⟩
        · intro k' hk' hl' d' hd'
          obtain ⟨u, ht⟩ := ht
          have hod : o.dst = none := hkd.symm
          rw [hod] at ht
          by_cases hki' : k'.i = i
          · have := hU k' hk' _ hkm (by rw [hki']; exact hki.symm)
            subst this
            cases hd'
          · have hl2 : listed.getD k'.i false = true := by
              have hl3 : (listed.setIfInBounds i true).getD k'.i false = true := hl'
              rwa [getD_set_ne false (fun h => hki' h.symm)] at hl3
            rw [ht]
            exact hC k' hk' hl2 d' hd'
        · have h2 : Own w0 w' ((if some i = some i then A' (vals k) else A (vals k)) :: (r ++ Ls (nextP es i p))) := hat.2.2
          simp only [if_true] at h2
          exact h2.perm (hr2.append_right _).symm
def Kn.fin (vals : Nat → Value) : Kn → Option HP
  | .det _ _ _ => none
  | .nd i _ s A A' => some ((bif s.isSome then A' else A) (vals i))
theorem frFin_has {a : Act} {vals : Nat → Value} {k : Fr → List HP → Prop} : ∀ {ks : List Kn} {fr : Fr} {M : List HP}, Has N fr a → Come vals ks (fun _ => True) a → frFin ks fr M k →
    ∃ fr' M', Has N fr' a ∧ k fr' M' ∧ M'.Perm (ks.filterMap (Kn.fin vals) ++ M) := by
  intro ks
  induction ks with
  | nil => intro fr M H _ h; exact ⟨fr, M, H, h, List.Perm.refl _⟩
  | cons kn ks ih =>
    intro fr M H hc h
    have hc' : Come vals ks (fun _ => True) a := fun kn h => hc kn (List.mem_cons_of_mem _ h)
    cases kn with
    | det i d c =>
      cases d with
      | none => exact ih H hc' h
      | some d => exact ih (H.more (hc _ List.mem_cons_self trivial d rfl)) hc' h
    | nd i d s A A' =>
      obtain ⟨fr', M', h1, h2, h3⟩ := ih (H.more (hc _ List.mem_cons_self trivial d rfl)) hc' (h (vals i))
      refine ⟨fr', M', h1, h2, h3.trans ?_⟩
      simp only [List.filterMap_cons, Kn.fin]
      exact List.perm_middle
def pre (ops : Array Oper) (n : Nat) : Array Bool := Array.replicate n true ++ Array.replicate (ops.size - n) false
theorem draw_any {fr0 : Fr} {m : Nat} {KS : List Kn} (hmn : m ≤ n) (hes : esB ops es = true) (hesn : ∀ e ∈ es, e < n) (hback : backB ops = true) (hn : n ≤ ops.size) (hwait : ∀ listed, HeadInv .any ops n listed → ∀ i, i < n → listed.getD i true = false → (∀ j, j < m → listed.getD j false = true) → ∀ t, n ≤ t → t ∉ Region.ready .any ops listed)
    (hZ : ∀ fr a w, Has N fr a → Z fr w → wpAnyIn (wideR N.ro) 0 P .any ops Q (ops.size - n) (pre ops n) a w) (hfresh : freshB (ops.toList.take n) = true)
    (hN : KS.Nodup) (hU : ∀ k1 ∈ KS, ∀ k2 ∈ KS, k1.i = k2.i → k1 = k2) (hS : ∀ k ∈ KS, SOk ops n k) (hlt : ∀ kn ∈ KS, kn.i < n)
    (hfin : ∀ w, frFin KS (frAtM ops m n fr0 n) (Ls es.length) fun fr M => Own w0 w M → Z fr w)
    (hop : ∀ (p : Nat) (o : Oper), m ≤ p → p < n → ops[p]? = some o → ∃ kn dep ks', kn.i = p ∧ kn ∈ KS ∧ kn.d = o.dst ∧ (∀ k ∈ ks', k ∈ KS) ∧ (∀ k ∈ KS, k.i < p → k ∈ ks') ∧ Ob P N ops Q es Ls w0 o p kn ks' (frAtM ops m n fr0 p) dep) (hge : ∀ kn ∈ KS, m ≤ kn.i) :
    ∀ (fuel : Nat) (listed : Array Bool) (a : Act) (w : World), listed.toList.count false = fuel → HeadInv .any ops n listed → (∀ j, j < m → listed.getD j false = true) → Old N ops m n fr0 listed a → Ahead KS es Ls w0 listed a w → wpAnyIn (wideR N.ro) 0 P .any ops Q fuel listed a w := by
  have hdone : ∀ (fuel : Nat) (listed : Array Bool) (a : Act) (w : World), listed.toList.count false = fuel → HeadInv .any ops n listed → Old N ops m n fr0 listed a → Ahead KS es Ls w0 listed a w →
      (∀ i, i < n → listed.getD i false = true) → wpAnyIn (wideR N.ro) 0 P .any ops Q fuel listed a w := by
    intro fuel listed a w hcount inv H hA hall
    have hl : listed = Array.replicate n true ++ Array.replicate (ops.size - n) false := by
      apply Array.ext
      · simp [inv.size]; omega
      · intro i h1 h2
        by_cases hi : i < n
        · have := hall i hi
          rw [Array.getElem_append_left (by simpa using hi)]
          simp [h1] at this ⊢
          exact this
        · have := inv.tail i (by omega) (by rw [← inv.size]; exact h1)
          rw [Array.getElem_append_right (by simp; omega)]
          simp [h1] at this ⊢
          exact this
    have hf : fuel = ops.size - n := by
      rw [← hcount, hl]
      simp [List.count_append, List.count_replicate]
    obtain ⟨p, vals, h1, h3, hC, hO⟩ := hA
    have hp : p = es.length := by
      rcases Nat.lt_or_ge p es.length with h | h
      · have hpe : es[p]? = some es[p] := List.getElem?_eq_getElem h
        have := (h3 p _ hpe).1 (hall _ (hesn _ (List.getElem_mem h)))
        omega
      · omega
    subst hp
    obtain ⟨fr', M', hf1, hf2, hf3⟩ := frFin_has (H.atEnd hback) (vals := vals) (fun kn hk _ d hd => hC kn hk (hall _ (hlt kn hk)) d hd) (hfin w)
    have hj := hf2 (by
      refine hO.perm (List.Perm.trans ?_ hf3.symm)
      rw [fm_congr (f := Kn.fin vals)]
      intro k hk
      cases k with
      | det => rfl
      | nd i d s A A' =>
        have hi : i < n := hlt _ hk
        simp only [Kn.hp, Kn.fin, hall i hi, cond_true]
        cases s with
        | none => rfl
        | some s =>
          have := (hS _ hk s rfl).2.1
          simp only [hall s this, Option.isSome_some])
    rw [hf, hl]
    exact hZ _ _ _ hf1 hj
  intro fuel
  induction fuel with
  | zero =>
    intro listed a w hcount inv hm0 H hA
    refine hdone 0 listed a w hcount inv H hA (fun i hi => ?_)
    have h0 := List.count_eq_zero.1 hcount
    have hsz : i < listed.size := by rw [inv.size]; omega
    cases hc : listed.getD i false with
    | true => rfl
    | false =>
      exfalso
      apply h0
      simp [hsz] at hc
      rw [← hc]
      exact Array.mem_toList_iff.2 (Array.getElem_mem hsz)
  | succ fuel ih =>
    intro listed a w hcount inv hm0 H hA
    by_cases hall : ∀ i, i < n → listed.getD i false = true
    · exact hdone _ listed a w hcount inv H hA hall
    · have ⟨mm, hm, hml⟩ : ∃ m, m < n ∧ listed.getD m false = false := by
        refine Classical.byContradiction fun hno => hall fun i hi => ?_
        cases hc : listed.getD i false with
        | true => rfl
        | false => exact absurd ⟨i, hi, hc⟩ hno
      obtain ⟨i0, hi0, hl0, hmin⟩ := least_unlisted mm hm hml
      have hlsz : i0 < listed.size := by rw [inv.size]; omega
      refine ⟨fun hr => ?_, fun i hi => ?_⟩
      · exfalso
        have : i0 ∈ Region.ready .any ops listed := by
          have ho : ops[i0]? = some (ops[i0]'(by omega)) := Array.getElem?_eq_getElem _
          exact mem_ready.2 ⟨getD_in hlsz hl0, _, ho, fun e he hb => hmin _ (backB_spec hback ho he hb)⟩
        rw [hr] at this
        cases this
      · have hin : i < n := by
          rcases Nat.lt_or_ge i n with h | h
          · exact h
          · exfalso
            exact hwait listed inv i0 hi0 (getD_in hlsz hl0) hm0 i h hi
        obtain ⟨hun, o, ho, hdeps⟩ := mem_ready.1 hi
        have hlisted : listed.getD i false = false := getD_both hun
        have him : m ≤ i := by
          rcases Nat.lt_or_ge i m with h | h
          · rw [hm0 i h] at hlisted; cases hlisted
          · exact h
        obtain ⟨kn, dep, ks', hki, hkm, hkd, hks, hearly, hob⟩ := hop i o him hin ho
        have hisz : i < listed.size := by rw [inv.size]; omega
        have hdst : ∀ k ∈ KS, k.i < n ∧ ∀ ok, ops[k.i]? = some ok → k.d = ok.dst := by
          intro k hk
          refine ⟨hlt k hk, fun ok hok => ?_⟩
          obtain ⟨kk, _, _, hkk1, hkk2, hkk3, _⟩ := hop k.i ok (hge k hk) (hlt k hk) hok
          have := hU kk hkk2 k hk hkk1
          subst this
          exact hkk3
        obtain ⟨Post, hw, hpost⟩ := hA.step hN hU hS hback hes inv hisz hlisted ho hdeps hin hfresh hki hkm hkd hdst hks hearly (H.at inv hlisted) hob
        have hnext : ∀ a' w', Post a' w' → (∃ v, a'.tmps = (a.put o.dst v).tmps) → wpAnyIn (wideR N.ro) 0 P .any ops Q fuel (listed.setIfInBounds i true) a' w' := by
          rintro a' w' hp ⟨v, ht⟩
          obtain ⟨hdf, hA'⟩ := hpost a' w' hp ⟨v, ht⟩
          have hother : ∀ t, o.dst ≠ some t → a'.tmps[t]? = a.tmps[t]? := by
            intro t hne
            rw [ht]
            cases hod : o.dst with
            | none => rfl
            | some d => simp only [Act.put]; rw [Array.getElem?_setIfInBounds_ne]; intro h; subst h; exact hne hod
          refine ih _ a' w' ?_ (inv.set hi hin) (fun j hj => by rw [getD_set_ne false (by omega)]; exact hm0 j hj) ⟨?_, hdf, fun t u e hn' => ?_⟩ hA'
          · have : (listed.setIfInBounds i true).toList = listed.toList.set i true := by simp
            rw [this, List.count_set (by simpa using hisz)]
            simp [hisz] at hlisted
            simp [hlisted]
            simp at hcount
            omega
          · rw [ht]; cases o.dst <;> simp [Act.put, H.size]
          · rw [hother t (fun hdt => ?_)]
            · refine H.get t u e fun j oj hmj hj hoj hdj => ?_
              have := hn' j oj hmj hj hoj hdj
              by_cases hji : j = i
              · subst hji; exact hlisted
              · rwa [getD_set_ne false (fun h => hji h.symm)] at this
            · have := hn' i o him hin ho hdt
              simp [hisz] at this
        unfold wpOpIn
        rw [ho]
        simp only
        unfold wpListIn at hw
        split at hw
        · rename_i hwant
          rw [if_pos hwant]
          refine Oper.wpIn_exits (fun e a w hne q => ?_) (Oper.wpIn_mono (fun a' w' hh => hnext a' w' hh.1 hh.2) (Oper.wpIn_tmps hw))
          cases e <;> first | exact absurd rfl hne | exact q
        · rename_i hwant
          rw [if_neg hwant]
          exact ⟨fun _ _ => trivial, hnext _ _ hw.2 ⟨undef, rfl⟩⟩

/-- A region that draws its order: each of its first n operations by itself; behind them the others, in the order of the text. es: the operations among the first n that write to what is ours already. -/
theorem pre_lt {n j : Nat} (h : j < n) (d : Bool) : (pre ops n).getD j d = true := by
  simp only [pre]
  rw [Array.getD_eq_getD_getElem?, Array.getElem?_append_left (by simpa using h), Array.getElem?_replicate, if_pos h]
  rfl
theorem pre_ge {n j : Nat} (h : n ≤ j) : (pre ops n).getD j false = false := by
  simp only [pre]
  rw [Array.getD_eq_getD_getElem?, Array.getElem?_append_right (by simpa using h), Array.getElem?_replicate]
  split <;> rfl
theorem pre_inv {n : Nat} (hn : n ≤ ops.size) (hback : backB ops = true) : HeadInv .any ops n (pre ops n) := by
  refine ⟨by simp [pre]; omega, fun j oj hoj hl e he hb => ?_, fun t ht ht' => ?_⟩
  · have hj : j < n := by
      rcases Nat.lt_or_ge j n with h | h
      · exact h
      · rw [pre_ge h] at hl; cases hl
    have := backB_spec hback hoj he hb
    exact pre_lt (by omega) _
  · simp only [pre]
    rw [Array.getD_eq_getD_getElem?, Array.getElem?_append_right (by simpa using ht), Array.getElem?_replicate, if_pos (by simp; omega)]
    rfl
theorem pre_count {n : Nat} (hn : n ≤ ops.size) : (pre ops n).toList.count false = ops.size - n := by
  simp [pre, List.count_append, List.count_replicate]
/-- a segment of a region, from m to n, in whatever order -/
theorem draw_seg {fr0 : Fr} {m : Nat} {a : Act} {w : World} {L : List HP} (hmn : m ≤ n) (hback : backB ops = true) (hn : n ≤ ops.size) (hes : esB ops es = true) (hesn : ∀ e ∈ es, m ≤ e ∧ e < n)
    (hwait : ∀ listed, HeadInv .any ops n listed → ∀ i, i < n → listed.getD i true = false → (∀ j, j < m → listed.getD j false = true) → ∀ t, n ≤ t → t ∉ Region.ready .any ops listed)
    (hZ : ∀ fr a w, Has N fr a → Z fr w → wpAnyIn (wideR N.ro) 0 P .any ops Q (ops.size - n) (pre ops n) a w) (hF : freshB (ops.toList.take n) = true) (H : Own w0 w L) (h0 : Ls 0 = L) (Ha : Has N fr0 a)
    (k : JD P N ops Q n es Ls w0 (frAtM ops m n fr0) Z ((ops.toList.take n).drop m) m []) : wpAnyIn (wideR N.ro) 0 P .any ops Q (ops.size - m) (pre ops m) a w := by
  obtain ⟨KS, _, g2, g3, g4, g5, g6, g7⟩ := k.spread (by simp) List.nodup_nil (by simp) (by simp)
  have hl : ((ops.toList.take n).drop m).length = n - m := by simp; omega
  have hrng : ∀ kn ∈ KS, m ≤ kn.i ∧ kn.i < n := by
    intro kn hk
    rcases g6 kn hk with h | h
    · cases h
    · omega
  have hnil : KS.filterMap (Kn.hp (fun i => (pre ops m).getD i false) fun _ => undef) = [] := by
    rw [List.filterMap_eq_nil_iff]
    intro k hk
    cases k with
    | det => rfl
    | nd i d s A A' =>
      have : m ≤ i := (hrng _ hk).1
      simp only [Kn.hp, pre_ge this, cond_false]
  refine draw_any (fr0 := fr0) (m := m) (KS := KS) (w0 := w0) (es := es) (Ls := Ls) (Z := Z) hmn hes (fun e he => (hesn e he).2) hback hn hwait hZ hF g2 g3 g4 (fun kn hk => (hrng kn hk).2) g5 (fun p o hmp hp ho => ?_) (fun kn hk => (hrng kn hk).1) (ops.size - m) (pre ops m) a w (pre_count (by omega)) ?_ (fun j hj => pre_lt hj _)
    ⟨Ha.size, Ha.defers, fun t v e _ => Ha.get t v e⟩ ⟨0, fun _ => undef, Nat.zero_le _, fun q e he => ?_, ?_, ?_⟩
  · obtain ⟨kn, dep, ks', h1, h2, h3, h4, h5, h6⟩ := g7 (p - m) o (by rw [List.getElem?_drop, List.getElem?_take, show m + (p - m) = p by omega]; simp [hp, ho])
    rw [show m + (p - m) = p by omega] at h1 h5 h6
    exact ⟨kn, dep, ks', h1, h2, h3, h4, h5, h6⟩
  · have hi := pre_inv (ops := ops) (n := m) (by omega) hback
    exact ⟨hi.size, hi.closed, fun t ht ht' => hi.tail t (by omega) ht'⟩
  · rw [pre_ge (hesn e (List.mem_of_getElem? he)).1]; simp
  · intro kn hk hS d _
    rw [pre_ge (hrng kn hk).1] at hS
    cases hS
  · rw [hnil, h0]; exact H
theorem wpAnyIn_of_seq {F : Fence} {k0 : Nat} {md : Region.Mode} {Q' : Exit → Act → World → Prop} : ∀ (l : List Oper) (k : Nat) (listed : Array Bool) (a : Act) (w : World), (∀ j, l[j]? = ops[k + j]?) →
    Region.seqB md ops l.length k listed = true → wpListIn F k0 P ops Q' l a w → wpAnyIn F k0 P md ops Q' l.length listed a w := by
  intro l
  induction l with
  | nil => intro k listed a w _ hB h; exact ⟨by simpa [Region.seqB] using hB, h⟩
  | cons o l ih =>
    intro k listed a w hl hB h
    have h0 : ops[k]? = some o := by simpa using (hl 0).symm
    simp only [List.length_cons, Region.seqB, Bool.and_eq_true, decide_eq_true_eq] at hB
    refine ⟨fun h1 => (by rw [hB.1] at h1; cases h1), fun i hi => ?_⟩
    rw [hB.1] at hi
    have hik : i = k := by simpa using hi
    subst hik
    have hw : wpOpIn F k0 P ops Q' i (wpListIn F k0 P ops Q' l) a w := by unfold wpOpIn; simp only [h0]; exact h
    exact wpOpIn_mono (fun a' w' h' => ih (i + 1) _ a' w' (fun j => by have := hl (j + 1); simpa [Nat.add_assoc, Nat.add_comm 1 j] using this) hB.2 h') hw
theorem JC.drawE {fr0 : Fr} {id : Nat} {w : World} {L : List HP} (n : Nat) (es : List Nat) (Ls : Nat → List HP) (H : Own w0 w L) (h0 : Ls 0 = L) (hm : P.follows .mixedOrders = true) (hB : (drawB ops n && esB ops es && es.all (fun e => Nat.blt e n)) = true)
    (hF : freshB (ops.toList.take n) = true) (k : JD P N ops Q n es Ls w0 (frAt ops n fr0) (fun fr w => JL P N ops Q (ops.toList.drop n) fr w) (ops.toList.take n) 0 []) : JC P N (.region id ops true) Q fr0 w := by
  intro a Ha
  simp only [Bool.and_eq_true] at hB
  obtain ⟨⟨hB, hes⟩, hen⟩ := hB
  simp only [drawB, Bool.and_eq_true, Bool.or_eq_true, decide_eq_true_eq] at hB
  obtain ⟨⟨⟨hback, hn⟩, ht⟩, hs⟩ := hB
  refine wpIn_region_any hm ?_
  have h := draw_seg (m := 0) (fr0 := fr0) (a := a) (w := w.drew) (L := L) (Z := fun fr w => JL P N ops Q (ops.toList.drop n) fr w) (Nat.zero_le n) hback hn hes (fun e he => ⟨Nat.zero_le _, Nat.lt_of_succ_le (Nat.le_of_ble_eq_true (List.all_eq_true.1 hen e he))⟩)
    (fun listed inv i hi hli _ t ht1 hr => by
      rcases ht with ht | ⟨hs', hc⟩
      · obtain ⟨_, oi, hoi, _⟩ := mem_ready.1 hr
        have := (Array.getElem?_eq_some_iff.1 hoi).1
        omega
      · have hn' : n < ops.size := by
          obtain ⟨_, oi, hoi, _⟩ := mem_ready.1 hr
          have := (Array.getElem?_eq_some_iff.1 hoi).1
          omega
        exact tail_waits hs' hc hn' inv (n - i) i rfl hi hli t ht1 hr)
    (fun fr a w Hf hz => by
      have := wpAnyIn_of_seq (F := wideR N.ro) (k0 := 0) (md := .any) (ops.toList.drop n) n (pre ops n) a w (fun j => by simp [List.getElem?_drop]) (by simpa [pre] using hs) (hz a Hf)
      simpa using this) hF H.drew h0 Ha k
  have e1 : pre ops 0 = Array.replicate ops.size false := by simp [pre]
  rw [e1] at h
  exact h
theorem JC.draw {fr0 : Fr} {id : Nat} {w : World} {L : List HP} (n : Nat) (H : Own w0 w L) (hm : P.follows .mixedOrders = true) (hB : drawB ops n = true) (hF : freshB (ops.toList.take n) = true)
    (k : JD P N ops Q n [] (fun _ => L) w0 (frAt ops n fr0) (fun fr w => JL P N ops Q (ops.toList.drop n) fr w) (ops.toList.take n) 0 []) : JC P N (.region id ops true) Q fr0 w :=
  JC.drawE n [] (fun _ => L) H rfl hm (by rw [hB]; rfl) hF k

/-- a call that only computes (it may make memory): its value is known -/
def Pur (P : Program) (f : FuncId) (args : Array Value) (w : World) (v : Value) : Prop := Calls P f args w fun e w' => e = .returned v ∧ Below w.heap.size w w'

/-! ### the operations of a drawn region, one by one -/
section
variable {d : Option Tmp} {ty : TypeId} {pos : String} {af : Array Edge} {r : List Oper} {i : Nat} {ks : List Kn} {L : List HP}
def neB (es : List Nat) (i : Nat) : Bool := es.all fun e => !Nat.beq i e
theorem neB_spec {es : List Nat} {i : Nat} (h : neB es i = true) : i ∉ es := by
  intro hi
  have := List.all_eq_true.1 h i hi
  simp at this
theorem nextP_ne {es : List Nat} {i p : Nat} (h : neB es i = true) : nextP es i p = p := by
  have := neB_spec h
  have hc : es.contains i = false := by simpa using this
  simp only [nextP, hc, cond_false]
def Kn.isS (i : Nat) : Kn → Bool
  | .nd _ _ (some s) _ _ => Nat.beq s i
  | _ => false
theorem Kn.isS_spec {k : Kn} {i : Nat} : k.isS i = true ↔ k.s = some i := by
  cases k with
  | det => simp [Kn.isS, Kn.s]
  | nd j d s A A' => cases s <;> simp [Kn.isS, Kn.s]
def noS (ks : List Kn) (i : Nat) : Bool := match ks with
  | [] => true
  | k :: r => !k.isS i && noS r i
theorem noS_spec {i : Nat} : ∀ {ks : List Kn}, noS ks i = true → ∀ k ∈ ks, k.s ≠ some i := by
  intro ks
  induction ks with
  | nil => intro _ k h; cases h
  | cons x ks ih =>
    intro h k hk hs
    simp only [noS, Bool.and_eq_true] at h
    cases hk with
    | head => rw [Kn.isS_spec.2 hs] at h; simp at h
    | tail _ hk => exact ih h.2 k hk hs
/-- the one item that operation i writes anew -/
def findS (i : Nat) : List Kn → Option Kn
  | [] => none
  | k :: r => bif k.isS i then (bif noS r i then some k else none) else findS i r
theorem findS_spec {i : Nat} {k0 : Kn} : ∀ {ks : List Kn}, findS i ks = some k0 → k0 ∈ ks ∧ ∀ k ∈ ks, k.s = some i → k = k0 := by
  intro ks
  induction ks with
  | nil => intro h; cases h
  | cons x ks ih =>
    intro h
    simp only [findS] at h
    cases hx : x.isS i with
    | true =>
      rw [hx] at h
      simp only [cond_true] at h
      cases hn : noS ks i with
      | false => rw [hn] at h; cases h
      | true =>
        rw [hn] at h
        cases h
        refine ⟨List.mem_cons_self, fun k hk hs => ?_⟩
        cases hk with
        | head => rfl
        | tail _ hk => exact absurd hs (noS_spec hn k hk)
    | false =>
      rw [hx] at h
      obtain ⟨h1, h2⟩ := ih (by simpa using h)
      refine ⟨List.mem_cons_of_mem _ h1, fun k hk hs => ?_⟩
      cases hk with
      | head => rw [Kn.isS_spec.2 hs] at hx; cases hx
      | tail _ hk => exact h2 k hk hs
/-- the item of slot d -/
def findD (d : Tmp) : List Kn → Option Kn
  | [] => none
  | .nd j e s A A' :: r => bif Nat.beq e d then some (.nd j e s A A') else findD d r
  | _ :: r => findD d r
theorem findD_spec {d : Tmp} {k0 : Kn} : ∀ {ks : List Kn}, findD d ks = some k0 → k0 ∈ ks := by
  intro ks
  induction ks with
  | nil => intro h; cases h
  | cons x ks ih =>
    intro h
    cases x with
    | det => exact List.mem_cons_of_mem _ (ih h)
    | nd j e s A A' =>
      simp only [findD] at h
      cases hb : Nat.beq e d with
      | true => rw [hb] at h; cases h; exact List.mem_cons_self
      | false => rw [hb] at h; exact List.mem_cons_of_mem _ (ih h)
/-- the operation comes ahead of all writes -/
def WB (ops : Array Oper) (es : List Nat) (i : Nat) : Bool := match es with
  | [] => true
  | e :: _ => Nat.beq i e || onB ops e i
theorem WB_spec {p : Nat} (h : WB ops es i = true) (h1 : p ≤ es.length) (h2 : phOK ops es i p = true) : p = 0 := by
  cases p with
  | zero => rfl
  | succ p =>
    exfalso
    cases es with
    | nil => simp at h1
    | cons e es =>
      simp only [phOK, Bool.and_eq_true, List.take_succ_cons, List.all_cons] at h2
      have h' : (Nat.beq i e || onB ops e i) = true := h
      rw [h'] at h2
      simp at h2
def AtDet (N : Sz) (o : Oper) (v : Value) (w : World) (a' : Act) (w' : World) : Prop := Below w.heap.size w w' ∧ a'.defers = N.marks ∧ ∀ t, o.dst = some t → a'.tmps[t]? = some v
theorem JD.nil (k : ∀ w, frFin ks (fr0 n) (Ls es.length) fun fr M => Own w0 w M → Z fr w) : JD P N ops Q n es Ls w0 fr0 Z [] i ks := k
/-- a value that is known, whatever comes first -/
theorem JD.det {o : Oper} (v : Value) (he : neB es i = true) (hs0 : noS ks i = true) (h : ∀ p w, p ≤ es.length → phOK ops es i p = true → Own w0 w (Ls p) → JL P N ops (Exit.then (AtDet N o v w) Q) [o] (frDet (depsOf o.after) ks (fr0 i)) w)
    (k : JD P N ops Q n es Ls w0 fr0 Z r (i + 1) (.det i o.dst v :: ks)) : JD P N ops Q n es Ls w0 fr0 Z (o :: r) i ks := by
  refine ⟨.det i o.dst v, none, rfl, rfl, fun s hs => (by cases hs), ⟨noS_spec hs0, fun p a w X h1 h2 hO Hf => ?_⟩, k⟩
  rw [nextP_ne he]
  exact wpList_exit (fun a' w' hh => ⟨hh.2.1, hh.2.2, hO.grow hh.1⟩) (h p w h1 h2 hO.right a Hf)
theorem JL.one {v : Value} {o : Oper} {fr : Fr} {w w' : World} (hb : Below w.heap.size w w') : JL P N ops (Exit.then (AtDet N o v w) Q) [] (fr.put o.dst v) w' := by
  refine JL.nil fun a H => ⟨hb, H.defers, fun d hd => ?_⟩
  have hd' : o.dst = some d := hd
  rw [hd'] at H
  exact H.get d v (by simp [Fr.put, Fr.get])
def sB (ops : Array Oper) (n i : Nat) : Option Nat → Bool
  | none => true
  | some s => Nat.blt i s && Nat.blt s n && onB ops s i
/-- a value with memory of its own -/
theorem JD.nd {o : Oper} {d : Tmp} (s : Option Nat) (A A' : Value → HP) (ho : o.dst = some d) (he : neB es i = true) (hs0 : noS ks i = true) (hsB : sB ops n i s = true)
    (h : ∀ p w X, p ≤ es.length → phOK ops es i p = true → Own w0 w (X ++ Ls p) → JL P N ops (Exit.then (fun a' w' => a'.defers = N.marks ∧ ∃ v, a'.tmps[d]? = some v ∧ Own w0 w' (A v :: (X ++ Ls p))) Q) [o] (frDet (depsOf o.after) ks (fr0 i)) w)
    (k : JD P N ops Q n es Ls w0 fr0 Z r (i + 1) (.nd i d s A A' :: ks)) : JD P N ops Q n es Ls w0 fr0 Z (o :: r) i ks := by
  refine ⟨.nd i d s A A', none, rfl, ho.symm, fun s' hs => ?_, ⟨noS_spec hs0, fun p a w X h1 h2 hO Hf => ?_⟩, k⟩
  · have : s = some s' := hs
    subst this
    simp only [sB, Bool.and_eq_true] at hsB
    exact ⟨Nat.lt_of_succ_le (Nat.le_of_ble_eq_true hsB.1.1), Nat.lt_of_succ_le (Nat.le_of_ble_eq_true hsB.1.2), hsB.2⟩
  · rw [nextP_ne he]
    exact h p w X h1 h2 hO a Hf
/-- a call that hands back memory of its own -/
theorem JL.oneN {v : Value} {o : Oper} {fr : Fr} {w' : World} {d : Tmp} {A : Value → HP} {M : List HP} (ho : o.dst = some d) (hO : Own w0 w' (A v :: M)) : JL P N ops (Exit.then (fun a' w' => a'.defers = N.marks ∧ ∃ v, a'.tmps[d]? = some v ∧ Own w0 w' (A v :: M)) Q) [] (fr.put o.dst v) w' := by
  refine JL.nil fun a H => ⟨H.defers, v, ?_, hO⟩
  rw [ho] at H
  exact H.get d v (by simp [Fr.put, Fr.get])

theorem JD.pure {op : Op} {v : Value} (hv : pureOp (frDet (depsOf af) ks (fr0 i)) op = some v) (hd : Fr.fits N d = true)
    (k : JD P N ops Q n es Ls w0 fr0 Z r (i + 1) (.det i d v :: ks)) (he : neB es i = true := by rfl) (hs0 : noS ks i = true := by rfl) : JD P N ops Q n es Ls w0 fr0 Z (⟨d, op, ty, pos, af, none⟩ :: r) i ks :=
  JD.det v he hs0 (fun _ _ _ _ _ => JL.pure hv hd (JL.one (o := ⟨d, op, ty, pos, af, none⟩) (Below.refl _ _))) k

theorem JD.arith {t yt : TypeId} {x y : Operand} {op : BinOp} {m : Int} (hv : pureOp (frDet (depsOf af) ks (fr0 i)) (.binOp op t x y yt) = some (.int .i64 (w64 m))) (hm : In64 m) (hd : Fr.fits N d = true)
    (k : JD P N ops Q n es Ls w0 fr0 Z r (i + 1) (.det i d (.int .i64 m) :: ks)) (he : neB es i = true := by rfl) (hs0 : noS ks i = true := by rfl) : JD P N ops Q n es Ls w0 fr0 Z (⟨d, .binOp op t x y yt, ty, pos, af, none⟩ :: r) i ks :=
  JD.pure (by rw [hv, w64_id hm]) hd k he hs0
theorem JD.neg {t : TypeId} {x : Operand} {m : Int} (hv : pureOp (frDet (depsOf af) ks (fr0 i)) (.unOp .neg t x) = some (.int .i64 (w64 m))) (hm : In64 m) (hd : Fr.fits N d = true)
    (k : JD P N ops Q n es Ls w0 fr0 Z r (i + 1) (.det i d (.int .i64 m) :: ks)) (he : neB es i = true := by rfl) (hs0 : noS ks i = true := by rfl) : JD P N ops Q n es Ls w0 fr0 Z (⟨d, .unOp .neg t x, ty, pos, af, none⟩ :: r) i ks :=
  JD.pure (by rw [hv, w64_id hm]) hd k he hs0

theorem JD.fieldAddr {x : Operand} {t u : TypeId} {f β off o m : Nat} {b : Bool} {fs : Array Field} (hx : (frDet (depsOf af) ks (fr0 i)).ev x = some (.pointer (some ⟨β, off, none⟩))) (hu : P.underlying t = some (.struct fs))
    (hf : fOff fs f = some (o, u)) (hs : tySh P u = some (b, m + 1)) (hd : Fr.fits N d = true) (k : JD P N ops Q n es Ls w0 fr0 Z r (i + 1) (.det i d (.pointer (some ⟨β, off + o, none⟩)) :: ks)) (he : neB es i = true := by rfl) (hs0 : noS ks i = true := by rfl) :
    JD P N ops Q n es Ls w0 fr0 Z (⟨d, .fieldAddr t x f, ty, pos, af, none⟩ :: r) i ks :=
  JD.det _ he hs0 (fun _ _ _ _ _ => JL.fieldAddr hx hu hf hs hd (JL.one (o := ⟨d, .fieldAddr t x f, ty, pos, af, none⟩) (Below.refl _ _))) k

theorem JD.load {x : Operand} {t : TypeId} {β off : Nat} {sh : Bool × Nat} {v : Value} (hx : (frDet (depsOf af) ks (fr0 i)).ev x = some (.pointer (some ⟨β, off, none⟩))) (hs : tySh P t = some sh)
    (hl : ∀ w, Own w0 w (Ls 0) → LdAt w β off sh v) (hd : Fr.fits N d = true) (k : JD P N ops Q n es Ls w0 fr0 Z r (i + 1) (.det i d v :: ks)) (he : neB es i = true := by rfl) (hs0 : noS ks i = true := by rfl) (hW : WB ops es i = true := by rfl) :
    JD P N ops Q n es Ls w0 fr0 Z (⟨d, .load t x, ty, pos, af, none⟩ :: r) i ks :=
  JD.det _ he hs0 (fun p w h1 h2 hO => JL.load hx hs (hl w (by have := WB_spec hW h1 h2; subst this; exact hO)) hd (JL.one (o := ⟨d, .load t x, ty, pos, af, none⟩) (Below.refl _ _))) k
/-- a load that may come ahead of a write or behind it -/
theorem JD.loadK {x : Operand} {t : TypeId} {β off : Nat} {sh : Bool × Nat} {v : Value} (hx : (frDet (depsOf af) ks (fr0 i)).ev x = some (.pointer (some ⟨β, off, none⟩))) (hs : tySh P t = some sh)
    (hl : ∀ p w, p ≤ es.length → Own w0 w (Ls p) → LdAt w β off sh v) (hd : Fr.fits N d = true) (k : JD P N ops Q n es Ls w0 fr0 Z r (i + 1) (.det i d v :: ks)) (he : neB es i = true := by rfl) (hs0 : noS ks i = true := by rfl) :
    JD P N ops Q n es Ls w0 fr0 Z (⟨d, .load t x, ty, pos, af, none⟩ :: r) i ks :=
  JD.det _ he hs0 (fun p w h1 _ hO => JL.load hx hs (hl p w h1 hO) hd (JL.one (o := ⟨d, .load t x, ty, pos, af, none⟩) (Below.refl _ _))) k

theorem JD.loadB {x : Operand} {t : TypeId} {β off : Nat} {sh : Bool × Nat} {v : Value} {cs : Array Value} {e : TypeId} {fz : Nat × Nat} (j : Nat)
    (hx : (frDet (depsOf af) ks (fr0 i)).ev x = some (.pointer (some ⟨β, off, none⟩))) (hs : tySh P t = some sh) (hi : (Ls 0)[j]? = some (blk β (.cells cs e fz)))
    (hl : loadOf cs.toList off sh = some v) (hd : Fr.fits N d = true) (k : JD P N ops Q n es Ls w0 fr0 Z r (i + 1) (.det i d v :: ks)) (he : neB es i = true := by rfl) (hs0 : noS ks i = true := by rfl) (hW : WB ops es i = true := by rfl) : JD P N ops Q n es Ls w0 fr0 Z (⟨d, .load t x, ty, pos, af, none⟩ :: r) i ks :=
  JD.load hx hs (fun _ hB => LdAt.of_block (hB.get hi).2 hl) hd k he hs0 hW
theorem JD.indexS {x ix : Operand} {t e : TypeId} {β off len cap sz : Nat} {b : Bool} {m : Int} (j : Nat) (hx : (frDet (depsOf af) ks (fr0 i)).ev x = some (.slice (some ⟨β, off, none⟩) len cap))
    (hi : (frDet (depsOf af) ks (fr0 i)).ev ix = some (.int .i64 m)) (hu : P.underlying t = some (.slice e)) (hs : tySh P e = some (b, sz)) (hm : m = (j : Int)) (hj : j < len) (hd : Fr.fits N d = true)
    (k : JD P N ops Q n es Ls w0 fr0 Z r (i + 1) (.det i d (.pointer (some ⟨β, off + j * sz, none⟩)) :: ks)) (he : neB es i = true := by rfl) (hs0 : noS ks i = true := by rfl) : JD P N ops Q n es Ls w0 fr0 Z (⟨d, .indexAddr t x ix, ty, pos, af, none⟩ :: r) i ks :=
  JD.det _ he hs0 (fun _ _ _ _ _ => JL.indexS j hx hi hu hs hm hj hd (JL.one (o := ⟨d, .indexAddr t x ix, ty, pos, af, none⟩) (Below.refl _ _))) k

theorem JD.indexA {x ix : Operand} {t e : TypeId} {β off len sz : Nat} {b : Bool} {m : Int} (j : Nat) (hx : (frDet (depsOf af) ks (fr0 i)).ev x = some (.pointer (some ⟨β, off, none⟩)))
    (hi : (frDet (depsOf af) ks (fr0 i)).ev ix = some (.int .i64 m)) (hu : P.underlying t = some (.array len e)) (hs : tySh P e = some (b, sz)) (hm : m = (j : Int)) (hj : j < len) (hd : Fr.fits N d = true)
    (k : JD P N ops Q n es Ls w0 fr0 Z r (i + 1) (.det i d (.pointer (some ⟨β, off + j * sz, none⟩)) :: ks)) (he : neB es i = true := by rfl) (hs0 : noS ks i = true := by rfl) : JD P N ops Q n es Ls w0 fr0 Z (⟨d, .indexAddr t x ix, ty, pos, af, none⟩ :: r) i ks :=
  JD.det _ he hs0 (fun _ _ _ _ _ => JL.indexA j hx hi hu hs hm hj hd (JL.one (o := ⟨d, .indexAddr t x ix, ty, pos, af, none⟩) (Below.refl _ _))) k

theorem JD.len {x : Operand} {t e : TypeId} {a0 : Option Addr} {m c : Nat} (hx : (frDet (depsOf af) ks (fr0 i)).ev x = some (.slice a0 m c)) (hu : P.underlying t = some (.slice e)) (hd : Fr.fits N d = true)
    (k : JD P N ops Q n es Ls w0 fr0 Z r (i + 1) (.det i d (.int .i64 m) :: ks)) (he : neB es i = true := by rfl) (hs0 : noS ks i = true := by rfl) : JD P N ops Q n es Ls w0 fr0 Z (⟨d, .call ⟨.builtin .len, #[x], #[t]⟩, ty, pos, af, none⟩ :: r) i ks :=
  JD.det _ he hs0 (fun _ _ _ _ _ => JL.len hx hu hd (JL.one (o := ⟨d, .call ⟨.builtin .len, #[x], #[t]⟩, ty, pos, af, none⟩) (Below.refl _ _))) k

theorem JD.build {t : TypeId} {ps : Array (Nat × Operand)} {pl : List (Nat × Nat)} {z cs : List Value} (ht : tyStruct P t = some (pl, z)) (hc : fillK (frDet (depsOf af) ks (fr0 i)) (fun i => pl[i]?) ps.toList z = some cs)
    (hd : Fr.fits N d = true) (k : JD P N ops Q n es Ls w0 fr0 Z r (i + 1) (.det i d (.agg ⟨cs⟩) :: ks)) (he : neB es i = true := by rfl) (hs0 : noS ks i = true := by rfl) : JD P N ops Q n es Ls w0 fr0 Z (⟨d, .build t ps, ty, pos, af, none⟩ :: r) i ks :=
  JD.det _ he hs0 (fun _ _ _ _ _ => JL.build ht hc hd (JL.one (o := ⟨d, .build t ps, ty, pos, af, none⟩) (Below.refl _ _))) k

theorem JD.conv {s t : TypeId} {x : Operand} {k0 k1 : IntKind} {ds : TypeDesc} {m : Int} (hx : (frDet (depsOf af) ks (fr0 i)).ev x = some (.int k0 m)) (hs : P.underlying s = some ds) (hu : P.underlying t = some (.int k1)) (hd : Fr.fits N d = true)
    (k : JD P N ops Q n es Ls w0 fr0 Z r (i + 1) (.det i d (.int k1 (k1.wrap m)) :: ks)) (he : neB es i = true := by rfl) (hs0 : noS ks i = true := by rfl) : JD P N ops Q n es Ls w0 fr0 Z (⟨d, .convert s t x, ty, pos, af, none⟩ :: r) i ks :=
  JD.det _ he hs0 (fun _ _ _ _ _ => JL.conv hx hs hu hd (JL.one (o := ⟨d, .convert s t x, ty, pos, af, none⟩) (Below.refl _ _))) k

theorem JD.nilCheck {x : Operand} {a0 : Addr} (hx : (frDet (depsOf af) ks (fr0 i)).ev x = some (.pointer (some a0))) (hd : Fr.fits N d = true)
    (k : JD P N ops Q n es Ls w0 fr0 Z r (i + 1) (.det i d (.pointer (some a0)) :: ks)) (he : neB es i = true := by rfl) (hs0 : noS ks i = true := by rfl) : JD P N ops Q n es Ls w0 fr0 Z (⟨d, .nilCheck x, ty, pos, af, none⟩ :: r) i ks :=
  JD.det _ he hs0 (fun _ _ _ _ _ => JL.nilCheck hx hd (JL.one (o := ⟨d, .nilCheck x, ty, pos, af, none⟩) (Below.refl _ _))) k

theorem JD.quo {t yt : TypeId} {x y : Operand} {a b : Int} (hx : (frDet (depsOf af) ks (fr0 i)).ev x = some (.int .i64 a)) (hy : (frDet (depsOf af) ks (fr0 i)).ev y = some (.int .i64 b)) (hb : b ≠ 0) (hd : Fr.fits N d = true)
    (k : JD P N ops Q n es Ls w0 fr0 Z r (i + 1) (.det i d (.int .i64 (w64 (a.tdiv b))) :: ks)) (he : neB es i = true := by rfl) (hs0 : noS ks i = true := by rfl) : JD P N ops Q n es Ls w0 fr0 Z (⟨d, .binOp .quo t x y yt, ty, pos, af, none⟩ :: r) i ks :=
  JD.det _ he hs0 (fun _ _ _ _ _ => JL.quo hx hy hb hd (JL.one (o := ⟨d, .binOp .quo t x y yt, ty, pos, af, none⟩) (Below.refl _ _))) k

theorem JD.rem {t yt : TypeId} {x y : Operand} {a b : Int} (hx : (frDet (depsOf af) ks (fr0 i)).ev x = some (.int .i64 a)) (hy : (frDet (depsOf af) ks (fr0 i)).ev y = some (.int .i64 b)) (hb : b ≠ 0) (hd : Fr.fits N d = true)
    (k : JD P N ops Q n es Ls w0 fr0 Z r (i + 1) (.det i d (.int .i64 (a.tmod b)) :: ks)) (he : neB es i = true := by rfl) (hs0 : noS ks i = true := by rfl) : JD P N ops Q n es Ls w0 fr0 Z (⟨d, .binOp .rem t x y yt, ty, pos, af, none⟩ :: r) i ks :=
  JD.det _ he hs0 (fun _ _ _ _ _ => JL.rem hx hy hb hd (JL.one (o := ⟨d, .binOp .rem t x y yt, ty, pos, af, none⟩) (Below.refl _ _))) k

theorem JD.quoP {t yt : TypeId} {x y : Operand} {a b : Int} (hx : (frDet (depsOf af) ks (fr0 i)).ev x = some (.int .i64 a)) (hy : (frDet (depsOf af) ks (fr0 i)).ev y = some (.int .i64 b)) (ha : 0 ≤ a) (hb : 1 ≤ b)
    (hi : a ≤ 9223372036854775807) (hd : Fr.fits N d = true)
    (k : JD P N ops Q n es Ls w0 fr0 Z r (i + 1) (.det i d (.int .i64 (a / b)) :: ks)) (he : neB es i = true := by rfl) (hs0 : noS ks i = true := by rfl) : JD P N ops Q n es Ls w0 fr0 Z (⟨d, .binOp .quo t x y yt, ty, pos, af, none⟩ :: r) i ks :=
  JD.det _ he hs0 (fun _ _ _ _ _ => JL.quoP hx hy ha hb hi hd (JL.one (o := ⟨d, .binOp .quo t x y yt, ty, pos, af, none⟩) (Below.refl _ _))) k
theorem JD.remP {t yt : TypeId} {x y : Operand} {a b : Int} (hx : (frDet (depsOf af) ks (fr0 i)).ev x = some (.int .i64 a)) (hy : (frDet (depsOf af) ks (fr0 i)).ev y = some (.int .i64 b)) (ha : 0 ≤ a) (hb : 1 ≤ b) (hd : Fr.fits N d = true)
    (k : JD P N ops Q n es Ls w0 fr0 Z r (i + 1) (.det i d (.int .i64 (a % b)) :: ks)) (he : neB es i = true := by rfl) (hs0 : noS ks i = true := by rfl) : JD P N ops Q n es Ls w0 fr0 Z (⟨d, .binOp .rem t x y yt, ty, pos, af, none⟩ :: r) i ks :=
  JD.det _ he hs0 (fun _ _ _ _ _ => JL.remP hx hy ha hb hd (JL.one (o := ⟨d, .binOp .rem t x y yt, ty, pos, af, none⟩) (Below.refl _ _))) k

def ptrHP (o : Obj) (v : Value) : HP := fun h => ∃ β, v = .pointer (some ⟨β, 0, none⟩) ∧ blk β o h
def slcHP (o : Obj) (m : Nat) (v : Value) : HP := fun h => ∃ β, v = .slice (some ⟨β, 0, none⟩) m m ∧ blk β o h
theorem Own.ptr {w0 w : World} {L : List HP} {o : Obj} {v : Value} (H : Own w0 w L) {j : Nat} (hj : L[j]? = some (ptrHP o v)) : ∃ β, v = .pointer (some ⟨β, 0, none⟩) ∧ Own w0 w (L.set j (blk β o)) := by
  obtain ⟨hB, h, hl, hs⟩ := H
  obtain ⟨x, y, d, rfl, ⟨β, hv, a⟩, c⟩ := starL_focus hj hs
  exact ⟨β, hv, hB, _, hl, starL_unfocus hj ⟨x, y, d, rfl, a, c⟩⟩
theorem Own.slc {w0 w : World} {L : List HP} {o : Obj} {m : Nat} {v : Value} (H : Own w0 w L) {j : Nat} (hj : L[j]? = some (slcHP o m v)) : ∃ β, v = .slice (some ⟨β, 0, none⟩) m m ∧ Own w0 w (L.set j (blk β o)) := by
  obtain ⟨hB, h, hl, hs⟩ := H
  obtain ⟨x, y, d, rfl, ⟨β, hv, a⟩, c⟩ := starL_focus hj hs
  exact ⟨β, hv, hB, _, hl, starL_unfocus hj ⟨x, y, d, rfl, a, c⟩⟩
theorem Own.entail0 {w0 w : World} {A B : HP} {L : List HP} (H : Own w0 w (A :: L)) (h : ∀ h, A h → B h) : Own w0 w (B :: L) := H.entail fun _ hs => star_mono h (fun _ h => h) hs
theorem JD.alloc {d : Tmp} {t : TypeId} {cs : List Value} (hz : tyZero P t = some cs) (hd : Fr.fits N (some d) = true)
    (k : JD P N ops Q n es Ls w0 fr0 Z r (i + 1) (.nd i d none (ptrHP (.cells ⟨cs⟩ t (0, 0))) (ptrHP (.cells ⟨cs⟩ t (0, 0))) :: ks)) (he : neB es i = true := by rfl) (hs0 : noS ks i = true := by rfl) :
    JD P N ops Q n es Ls w0 fr0 Z (⟨some d, .alloc t, ty, pos, af, none⟩ :: r) i ks :=
  JD.nd none _ _ rfl he hs0 rfl (fun p w X _ _ hO => JL.alloc hO hz hd fun β w' H' => JL.oneN (o := ⟨some d, .alloc t, ty, pos, af, none⟩) (A := ptrHP (.cells ⟨cs⟩ t (0, 0))) rfl (H'.entail0 fun _ hb => ⟨β, rfl, hb⟩)) k
/-- memory that operation s writes anew, with what slot y holds -/
theorem JD.allocS {d : Tmp} {t : TypeId} {cs : List Value} {v : Value} (s : Nat) (y : Operand) (hz : tyZero P t = some cs) (hd : Fr.fits N (some d) = true) (hy : (frDet (fun _ => true) ks (fr0 i)).ev y = some v)
    (k : JD P N ops Q n es Ls w0 fr0 Z r (i + 1) (.nd i d (some s) (ptrHP (.cells ⟨cs⟩ t (0, 0))) (ptrHP (.cells ⟨cellsL v⟩ t (0, 0))) :: ks)) (he : neB es i = true := by rfl) (hs0 : noS ks i = true := by rfl) (hsB : sB ops n i (some s) = true := by rfl) :
    JD P N ops Q n es Ls w0 fr0 Z (⟨some d, .alloc t, ty, pos, af, none⟩ :: r) i ks :=
  JD.nd (some s) _ _ rfl he hs0 hsB (fun p w X _ _ hO => JL.alloc hO hz hd fun β w' H' => JL.oneN (o := ⟨some d, .alloc t, ty, pos, af, none⟩) (A := ptrHP (.cells ⟨cs⟩ t (0, 0))) rfl (H'.entail0 fun _ hb => ⟨β, rfl, hb⟩)) k
theorem Has.shadow {N : Sz} {fr : Fr} {a : Act} {x : Tmp} {u v : Value} {y : Operand} (Hf : Has N fr a) (hx : a.tmps[x]? = some u) (hy : fr.ev y = some v) : Fr.ev ((x, u) :: fr) y = some v := by
  cases y with
  | tmp t =>
    simp only [Fr.ev, Fr.get] at hy ⊢
    cases hb : Nat.beq x t with
    | false => exact hy
    | true =>
      have hxt := Nat.eq_of_beq_eq_true hb
      subst hxt
      have := Hf.get _ _ hy
      rw [hx] at this
      exact this
  | const => exact hy
  | func => exact hy
  | global => exact hy
theorem JD.storeF {x : Tmp} {y : Operand} {t t' : TypeId} {m kk : Nat} {b : Bool} {v : Value} {cs : List Value} (hf : findS i ks = some (.nd kk x (some i) (ptrHP (.cells ⟨cs⟩ t' (0, 0))) (ptrHP (.cells ⟨cellsL v⟩ t' (0, 0))))) (hdep : depsOf af kk = true)
    (hy : (frDet (depsOf af) ks (fr0 i)).ev y = some v) (hs : tySh P t = some (b, m)) (hn : (cellsL v).length = m) (h1 : allOne (cellsL v) = true) (hset : setK 0 (cellsL v) cs some = some (cellsL v))
    (k : JD P N ops Q n es Ls w0 fr0 Z r (i + 1) (.det i none undef :: ks)) (he : neB es i = true := by rfl) : JD P N ops Q n es Ls w0 fr0 Z (⟨none, .store t (.tmp x) y, ty, pos, af, none⟩ :: r) i ks := by
  obtain ⟨g1, g2⟩ := findS_spec hf
  refine ⟨.det i none undef, some (.nd kk x (some i) (ptrHP (.cells ⟨cs⟩ t' (0, 0))) (ptrHP (.cells ⟨cellsL v⟩ t' (0, 0)))), rfl, rfl, fun s hs => (by cases hs), ⟨g1, hdep, .inr ⟨rfl, undef, rfl⟩, g2, fun p a w X u _ _ hO Hf hx => ?_⟩, k⟩
  rw [nextP_ne he]
  simp only [if_true]
  obtain ⟨β, rfl, hO'⟩ := hO.ptr (j := 0) rfl
  have Hf' := Hf.more hx
  refine JL.storeB 0 hO' (fr := (x, .pointer (some ⟨β, 0, none⟩)) :: frDet (depsOf af) ks (fr0 i)) (by simp [Fr.ev, Fr.get]) (v := v) ?_ hs rfl hn h1 hset rfl (fun w' HH => ?_) a Hf'
  · exact Hf.shadow hx hy
  · refine JL.nil fun a2 H2 => ⟨H2.defers, fun t ht => (by cases ht), ?_⟩
    exact Own.entail0 HH fun _ hb => ⟨β, rfl, hb⟩
theorem JD.buildSlice {d : Tmp} {t e : TypeId} {m sz : Nat} {b : Bool} {ps : Array (Nat × Operand)} {z cs : List Value} (hu : P.underlying t = some (.slice e)) (hs : tySh P e = some (b, sz)) (hz : tyZero P e = some z)
    (hn : Nat.ble (m * sz) 16777216 = true) (hzl : z.length = sz) (hpos : Nat.ble 1 sz = true) (hc : fillK (frDet (depsOf af) ks (fr0 i)) (fun i => some (i * sz, sz)) ps.toList (List.replicate m z).flatten = some cs) (hd : Fr.fits N (some d) = true)
    (k : JD P N ops Q n es Ls w0 fr0 Z r (i + 1) (.nd i d none (slcHP (.cells ⟨cs⟩ e (0, 0)) m) (slcHP (.cells ⟨cs⟩ e (0, 0)) m) :: ks)) (he : neB es i = true := by rfl) (hs0 : noS ks i = true := by rfl) :
    JD P N ops Q n es Ls w0 fr0 Z (⟨some d, .buildSlice t m ps, ty, pos, af, none⟩ :: r) i ks :=
  JD.nd none _ _ rfl he hs0 rfl (fun p w X _ _ hO => JL.buildSlice hO hu hs hz hn hzl hpos hc hd fun β w' H' => JL.oneN (o := ⟨some d, .buildSlice t m ps, ty, pos, af, none⟩) (A := slcHP (.cells ⟨cs⟩ e (0, 0)) m) rfl (H'.entail0 fun _ hb => ⟨β, rfl, hb⟩)) k
/-- a call whose value is known; it may make memory -/
theorem JD.call {f : FuncId} {xs : Array Operand} {tys : Array TypeId} {vs : List Value} {v : Value} (hb : hasBody P f = true) (hx : (frDet (depsOf af) ks (fr0 i)).evs xs.toList = some vs) (hd : Fr.fits N d = true)
    (hc : ∀ w, Own w0 w (Ls 0) → Pur P f vs.toArray w v)
    (k : JD P N ops Q n es Ls w0 fr0 Z r (i + 1) (.det i d v :: ks)) (he : neB es i = true := by rfl) (hs0 : noS ks i = true := by rfl) (hW : WB ops es i = true := by rfl) : JD P N ops Q n es Ls w0 fr0 Z (⟨d, .call ⟨.value (.func f), xs, tys⟩, ty, pos, af, none⟩ :: r) i ks :=
  JD.det v he hs0 (fun p w h1 h2 hO => JL.call hb hx hd (hc w (by have := WB_spec hW h1 h2; subst this; exact hO)) fun _ _ he => ⟨v, he.1, JL.one (o := ⟨d, .call ⟨.value (.func f), xs, tys⟩, ty, pos, af, none⟩) he.2⟩) k
theorem JD.callv {f : FuncId} {x : Operand} {first capt : List Value} {xs : Array Operand} {tys : Array TypeId} {vs : List Value} {v : Value}
    (hf : (frDet (depsOf af) ks (fr0 i)).ev x = some (.func (.func f) ⟨first⟩ ⟨capt⟩)) (hb : hasBody P f = true) (hx : (frDet (depsOf af) ks (fr0 i)).evs xs.toList = some vs) (hd : Fr.fits N d = true)
    (hc : ∀ w, Own w0 w (Ls 0) → Pur P f (first ++ vs ++ capt).toArray w v)
    (k : JD P N ops Q n es Ls w0 fr0 Z r (i + 1) (.det i d v :: ks)) (he : neB es i = true := by rfl) (hs0 : noS ks i = true := by rfl) (hW : WB ops es i = true := by rfl) : JD P N ops Q n es Ls w0 fr0 Z (⟨d, .call ⟨.value x, xs, tys⟩, ty, pos, af, none⟩ :: r) i ks :=
  JD.det v he hs0 (fun p w h1 h2 hO => JL.callv hf hb hx hd (hc w (by have := WB_spec hW h1 h2; subst this; exact hO)) fun _ _ he => ⟨v, he.1, JL.one (o := ⟨d, .call ⟨.value x, xs, tys⟩, ty, pos, af, none⟩) he.2⟩) k

/-- a guarded operation that is carried out -/
theorem JD.want {op : Op} {j : Nat} {b : Bool} {t : Tmp} (hj : (ops[j]?).bind (·.dst) = some t) (hv : (frDet (depsOf af) ks (fr0 i)).get t = some (.bool b))
    (k : JD P N ops Q n es Ls w0 fr0 Z (⟨d, op, ty, pos, af, none⟩ :: r) i ks) : JD P N ops Q n es Ls w0 fr0 Z (⟨d, op, ty, pos, af, some (j, b)⟩ :: r) i ks := by
  obtain ⟨kn, dep, e1, e2, e3, hob, h'⟩ := k
  have key : ∀ Q' a w, Has N (frDet (depsOf af) ks (fr0 i)) a → wpListIn (wideR N.ro) 0 P ops Q' [⟨d, op, ty, pos, af, none⟩] a w → wpListIn (wideR N.ro) 0 P ops Q' [⟨d, op, ty, pos, af, some (j, b)⟩] a w := by
    intro Q' a w Hf hk
    unfold wpListIn at hk ⊢
    have h1 : yielded ops a.tmps j = some b := by simp [yielded, hj, Hf.get t _ hv]
    rw [if_pos (by simp [Region.wanted, h1])]
    rw [if_pos (by simp [Region.wanted])] at hk
    exact hk
  refine ⟨kn, dep, e1, e2, e3, ?_, h'⟩
  cases dep with
  | none => exact ⟨hob.1, fun p a w X h1 h2 hO Hf => key _ a w Hf (hob.2 p a w X h1 h2 hO Hf)⟩
  | some k0 => cases k0 with
    | det => exact ⟨hob.1, fun p a w X h1 h2 hO Hf => key _ a w Hf (hob.2 p a w X h1 h2 hO Hf)⟩
    | nd => 
      obtain ⟨g1, g2, g3, g4, g5⟩ := hob
      exact ⟨g1, g2, g3, g4, fun p a w X v h1 h2 hO Hf hs => key _ a w Hf (g5 p a w X v h1 h2 hO Hf hs)⟩

theorem JD.pass {op : Op} {j : Nat} {b c : Bool} {t : Tmp} (hj : (ops[j]?).bind (·.dst) = some t) (hv : (frDet (depsOf af) ks (fr0 i)).get t = some (.bool c)) (hne : (c == b) = false) (hd : Fr.fits N d = true)
    (k : JD P N ops Q n es Ls w0 fr0 Z r (i + 1) (.det i d undef :: ks)) (he : neB es i = true := by rfl) (hs0 : noS ks i = true := by rfl) : JD P N ops Q n es Ls w0 fr0 Z (⟨d, op, ty, pos, af, some (j, b)⟩ :: r) i ks :=
  JD.det undef he hs0 (fun _ _ _ _ _ => JL.pass hj hv hne hd (JL.one (o := ⟨d, op, ty, pos, af, some (j, b)⟩) (Below.refl _ _))) k
theorem JD.passU {op : Op} {j : Nat} {b : Bool} {t : Tmp} (hj : (ops[j]?).bind (·.dst) = some t) (hv : (frDet (depsOf af) ks (fr0 i)).get t = some undef) (hd : Fr.fits N d = true)
    (k : JD P N ops Q n es Ls w0 fr0 Z r (i + 1) (.det i d undef :: ks)) (he : neB es i = true := by rfl) (hs0 : noS ks i = true := by rfl) : JD P N ops Q n es Ls w0 fr0 Z (⟨d, op, ty, pos, af, some (j, b)⟩ :: r) i ks :=
  JD.det undef he hs0 (fun _ _ _ _ _ => JL.passU hj hv hd (JL.one (o := ⟨d, op, ty, pos, af, some (j, b)⟩) (Below.refl _ _))) k

/-- a Bool that is known, decided both ways -/
theorem JD.cases (t : Tmp) {j : Nat} {b : Bool} {ks' : List Kn} (hk : ks = .det j (some t) (.bool b) :: ks') (ht : b = true → JD P N ops Q n es Ls w0 fr0 Z r i (.det j (some t) (.bool true) :: ks'))
    (hf : b = false → JD P N ops Q n es Ls w0 fr0 Z r i (.det j (some t) (.bool false) :: ks')) : JD P N ops Q n es Ls w0 fr0 Z r i ks := by
  subst hk
  cases b with
  | true => exact ht rfl
  | false => exact hf rfl
end
end
section
variable {P : Program} {N : Sz} {ops : Array Oper} {Q : Exit → Act → World → Prop} {rest : List Oper} {fr : Fr} {w w0 : World} {L : List HP}
  {d : Option Tmp} {ty : TypeId} {pos : String} {af : Array Edge}
theorem JL.callP {f : FuncId} {xs : Array Operand} {tys : Array TypeId} {vs : List Value} {v : Value} (H : Own w0 w L) (hb : hasBody P f = true) (hx : fr.evs xs.toList = some vs) (hd : Fr.fits N d = true)
    (hc : Pur P f vs.toArray w v) (k : ∀ w', Own w0 w' L → Below w.heap.size w w' → JL P N ops Q rest (fr.put d v) w') :
    JL P N ops Q (⟨d, .call ⟨.value (.func f), xs, tys⟩, ty, pos, af, none⟩ :: rest) fr w :=
  JL.call hb hx hd hc fun _ w' he => ⟨v, he.1, k w' (H.grow he.2) he.2⟩
theorem JL.callvP {f : FuncId} {x : Operand} {first capt : List Value} {xs : Array Operand} {tys : Array TypeId} {vs : List Value} {v : Value} (H : Own w0 w L)
    (hf : fr.ev x = some (.func (.func f) ⟨first⟩ ⟨capt⟩)) (hb : hasBody P f = true) (hx : fr.evs xs.toList = some vs) (hd : Fr.fits N d = true)
    (hc : Pur P f (first ++ vs ++ capt).toArray w v) (k : ∀ w', Own w0 w' L → Below w.heap.size w w' → JL P N ops Q rest (fr.put d v) w') :
    JL P N ops Q (⟨d, .call ⟨.value x, xs, tys⟩, ty, pos, af, none⟩ :: rest) fr w :=
  JL.callv hf hb hx hd hc fun _ w' he => ⟨v, he.1, k w' (H.grow he.2) he.2⟩
theorem pur_J {n : Nat} {f : FuncId} {fn : Func} {c : Code} {args : List Value} {v : Value}
    (hf : P.funcs[f]? = some fn) (hb : fn.body = some c) (hn : fn.ntmps = n) (hl : Nat.ble args.length n = true)
    (k : JC P ⟨n, [], none⟩ c (bodyJ P fn fun e w' => e = .returned v ∧ Below w.heap.size w w') (frOf 0 args) w) : Pur P f args.toArray w v := calls_J hf hb hn hl k
end
end Go.J
