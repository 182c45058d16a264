/-
  Lemmas for the statements of this seat; no statement is proved here. No condition.
-/
import Derived.Test.YtfbmgmdjaoackaaG11
namespace Go.J
open Go.RowKit Go.Proofs
set_option maxRecDepth 8000
set_option linter.unusedSimpArgs false
set_option linter.unusedVariables false
theorem Sl.ld {α : Type} {ev : α → Value} {sh : Bool × Nat} {w : World} {β off n cap : Nat} {xs : List α} (h : Sl ev sh w (.slice (some ⟨β, off, none⟩) n cap) xs) {k : Nat} {x : α} (hx : xs[k]? = some x) : LdAt w β (off + k * sh.2) sh (ev x) := by
  obtain ⟨_, a, c, h2, h3⟩ := h
  cases h2
  rcases h3 with rfl | ⟨β', off', h4, _, h6⟩
  · simp at hx
  · cases h4
    exact h6 k x hx
theorem Sl.shape {α : Type} {ev : α → Value} {sh : Bool × Nat} {w : World} {v : Value} {x : α} {xs : List α} (h : Sl ev sh w v (x :: xs)) : ∃ β off cap, v = .slice (some ⟨β, off, none⟩) (xs.length + 1) cap := by
  obtain ⟨_, a, c, h2, h3⟩ := h
  rcases h3 with h3 | ⟨β, off, rfl, _, _⟩
  · cases h3
  · exact ⟨β, off, c, h2⟩
theorem Sl.len {α : Type} {ev : α → Value} {sh : Bool × Nat} {w : World} {v : Value} {xs : List α} (h : Sl ev sh w v xs) : ∃ a cap, v = .slice a xs.length cap := by
  obtain ⟨_, a, c, h2, _⟩ := h
  exact ⟨a, c, h2⟩
def bothN (W H : Int) : Nat → Tab → List Run → List Run → Tab
  | n + 1, T, x :: a, y :: b =>
    if x.Y < y.Y ∨ x.Y = y.Y ∧ x.To < y.To then bothN W H n (if x.Y = y.Y then T.add W H x.Y (max x.From y.From) (min x.To y.To) else T) a (y :: b)
    else bothN W H n (if x.Y = y.Y then T.add W H x.Y (max x.From y.From) (min x.To y.To) else T) (x :: a) b
  | _, T, _, _ => T
/-- the cells of both, added -/
def bothT (W H : Int) (T : Tab) (a b : List Run) : Tab := bothN W H (a.length + b.length) T a b
theorem bothT_nil1 (W H : Int) (T : Tab) (b : List Run) : bothT W H T [] b = T := by unfold bothT; cases b <;> simp [bothN]
theorem bothT_nil2 (W H : Int) (T : Tab) (a : List Run) : bothT W H T a [] = T := by unfold bothT; cases a <;> simp [bothN]
theorem bothT_cons (W H : Int) (T : Tab) (x y : Run) (a b : List Run) : bothT W H T (x :: a) (y :: b) =
    if x.Y < y.Y ∨ x.Y = y.Y ∧ x.To < y.To then bothT W H (if x.Y = y.Y then T.add W H x.Y (max x.From y.From) (min x.To y.To) else T) a (y :: b)
    else bothT W H (if x.Y = y.Y then T.add W H x.Y (max x.From y.From) (min x.To y.To) else T) (x :: a) b := by
  unfold bothT
  rw [show (x :: a).length + (y :: b).length = (a.length + (y :: b).length) + 1 by simp; omega, bothN]
  rw [show (x :: a).length + b.length = a.length + (y :: b).length by simp; omega]
theorem both_good {W : Int} (H : Int) : ∀ (n k : Nat) (T : Tab) (a b : List Run), Tab.good W k T → Tab.good W (k + n) (bothN W H n T a b) := by
  intro n
  induction n with
  | zero => intro k T a b h; cases a <;> cases b <;> exact h
  | succ n ih =>
    intro k T a b h
    cases a with
    | nil => exact h.mono (by omega)
    | cons x a => cases b with
      | nil => exact h.mono (by omega)
      | cons y b =>
        have h' : Tab.good W (k + 1) (if x.Y = y.Y then T.add W H x.Y (max x.From y.From) (min x.To y.To) else T) := by
          split
          · exact h.add _ _ _ _
          · exact h.mono (by omega)
        rw [bothN]
        rw [show k + (n + 1) = k + 1 + n by omega]
        split <;> exact ih _ _ _ _ h'
theorem both_c {w0 w : World} {L : List HP} {β : Nat} {T : Tab} (H : Own w0 w (tbl β T :: L)) (g : Grid) (lv av bv : Value) (xa xb : List Run) (hgW : 1 ≤ g.W ∧ g.W ≤ 256) (hgH : 1 ≤ g.H ∧ g.H ≤ 256)
    (ha : ∀ w' T', Own w0 w' (tbl β T' :: L) → SlR w' av xa) (hb : ∀ w' T', Own w0 w' (tbl β T' :: L) → SlR w' bv xb) (hca : capOK av) (hcb : capOK bv) {k : Nat} (hT : Tab.good g.W k T) (hk : k + xa.length + xb.length ≤ 1000000000) :
    Calls Try.prog 130 #[.pointer (some ⟨β, 0, none⟩), g.ev lv, av, bv] w (fun e w' => e = .returned (.tuple #[]) ∧ Own w0 w' (tbl β (bothT g.W g.H T xa xb) :: L)) := by
  refine calls_J (args := [.pointer (some ⟨β, 0, none⟩), g.ev lv, av, bv]) Try.func130 rfl Try.ntmps130 rfl ?_
  ((repeat refine JC.seq ?_); refine JC.region ?_)
  refine JL.box H rfl rfl rfl ?_
  intro b5 w1 H
  refine JL.nil ?_
  ((repeat refine Ex.normal_block ?_); refine Ex.next ?_)
  ((repeat refine JC.seq ?_); refine JC.block ?_)
  ((repeat refine JC.seq ?_); refine JC.loop (ι := Value × Value × List Run × List Run × Tab × Nat) (fun x => [(0, .pointer (some ⟨β, 0, none⟩)), (2, x.1), (3, x.2.1), (5, .pointer (some ⟨b5, 0, none⟩))])
    (fun x wr => (∀ w' T', Own w0 w' (tbl β T' :: L) → SlR w' x.1 x.2.2.1) ∧ (∀ w' T', Own w0 w' (tbl β T' :: L) → SlR w' x.2.1 x.2.2.2.1) ∧ capOK x.1 ∧ capOK x.2.1 ∧ Tab.good g.W x.2.2.2.2.2 x.2.2.2.2.1 ∧ x.2.2.2.2.2 + x.2.2.1.length + x.2.2.2.1.length ≤ 1000000000 ∧
      bothT g.W g.H T xa xb = bothT g.W g.H x.2.2.2.2.1 x.2.2.1 x.2.2.2.1 ∧ Own w0 wr (tbl β x.2.2.2.2.1 :: blk b5 (.cells ⟨[.int .i64 g.W, .int .i64 g.H, .int .i64 g.S, lv]⟩ 52 (0, 0)) :: L))
    (fun x => x.2.2.1.length + x.2.2.2.1.length) (av, bv, xa, xb, T, k) ?_ ?_ ?_)
  · exact ⟨rfl, rfl, rfl, rfl, trivial⟩
  · exact ⟨ha, hb, hca, hcb, hT, hk, rfl, H.front 1 rfl⟩
  · rintro ⟨av, bv, xa', xb', T', k'⟩ wr ⟨ha, hb, hca, hcb, hT, hk, he, H⟩
    simp only at ha hb hca hcb hT hk he H
    obtain ⟨aa, ac, rfl⟩ := (ha _ _ (H.drop 1)).len
    obtain ⟨ba, bc, rfl⟩ := (hb _ _ (H.drop 1)).len
    ((repeat refine JC.seq ?_); refine JC.region ?_)
    refine JL.pure rfl rfl ?_
    refine JL.len rfl Try.underlying50 rfl ?_
    refine JL.pure rfl rfl ?_
    refine JL.pure rfl rfl ?_
    refine JL.cases 13 rfl ?_ ?_
    · intro h13
      (try simp only [Bool.not_eq_true', Bool.not_eq_false', decide_eq_true_eq, decide_eq_false_iff_not] at h13)
      obtain ⟨x, xa', rfl⟩ : ∃ x r, xa' = x :: r := by
        cases xa' with
        | nil => simp at h13
        | cons x r => exact ⟨x, r, rfl⟩
      obtain ⟨αβ, αo, αc, hsh⟩ := (ha _ _ (H.drop 1)).shape
      simp only [Value.slice.injEq] at hsh
      obtain ⟨rfl, _, rfl⟩ := hsh
      refine JL.want rfl rfl ?_
      refine JL.pure rfl rfl ?_
      refine JL.want rfl rfl ?_
      refine JL.len rfl Try.underlying50 rfl ?_
      refine JL.want rfl rfl ?_
      refine JL.pure rfl rfl ?_
      refine JL.pure rfl rfl ?_
      refine JL.nil ?_
      ((repeat refine Ex.normal_block ?_); refine Ex.next ?_)
      ((repeat refine JC.seq ?_); refine JC.cond rfl ?_ ?_)
      · intro h17
        (try simp only [Bool.not_eq_true', Bool.not_eq_false', decide_eq_true_eq, decide_eq_false_iff_not] at h17)
        obtain ⟨y, xb', rfl⟩ : ∃ x r, xb' = x :: r := by
          cases xb' with
          | nil => simp at h17
          | cons x r => exact ⟨x, r, rfl⟩
        obtain ⟨ββ, βo, βc, hsh⟩ := (hb _ _ (H.drop 1)).shape
        simp only [Value.slice.injEq] at hsh
        obtain ⟨rfl, _, rfl⟩ := hsh
        ((repeat refine JC.seq ?_); refine JC.skip ?_)
        ((repeat refine Ex.normal_block ?_); refine Ex.next ?_)
        ((repeat refine JC.seq ?_); refine JC.block ?_)
        ((repeat refine JC.seq ?_); refine JC.draw 10 H mixed (by kernel_rfl) rfl ?_)
        refine JD.pure rfl rfl ?_
        refine JD.indexS 0 rfl rfl Try.underlying50 sh140 rfl (by simp) rfl ?_
        refine JD.load rfl sh140 (fun w hw => (ha _ _ (hw.drop 1)).ld (k := 0) rfl) rfl ?_
        refine JD.pure rfl rfl ?_
        refine JD.indexS 0 rfl rfl Try.underlying50 sh140 rfl (by simp) rfl ?_
        refine JD.load rfl sh140 (fun w hw => (hb _ _ (hw.drop 1)).ld (k := 0) rfl) rfl ?_
        refine JD.allocS 8 (.tmp 20) z140 rfl rfl ?_
        refine JD.allocS 9 (.tmp 23) z140 rfl rfl ?_
        refine JD.storeF rfl rfl rfl sh140 rfl rfl rfl ?_
        refine JD.storeF rfl rfl rfl sh140 rfl rfl rfl ?_
        refine JD.nil ?_
        intro w2 v9 v8 H
        obtain ⟨b8, rfl, H⟩ := H.ptr (j := 0) rfl
        obtain ⟨b9, rfl, H⟩ := H.ptr (j := 1) rfl
        show JL _ _ _ _ _ _ _
        refine JL.nil ?_
        ((repeat refine Ex.normal_block ?_); refine Ex.next ?_)
        ((repeat refine JC.seq ?_); refine JC.region ?_)
        refine JL.fieldAddr rfl Try.underlying140 rfl sh3 rfl ?_
        refine JL.loadB 0 H rfl sh3 rfl rfl rfl ?_
        refine JL.fieldAddr rfl Try.underlying140 rfl sh3 rfl ?_
        refine JL.loadB 1 H rfl sh3 rfl rfl rfl ?_
        refine JL.pure rfl rfl ?_
        refine JL.nil ?_
        ((repeat refine Ex.normal_block ?_); refine Ex.next ?_)
        ((repeat refine JC.seq ?_); refine JC.cond rfl ?_ ?_)
        · intro h28
          (try simp only [Bool.not_eq_true', Bool.not_eq_false', decide_eq_true_eq, decide_eq_false_iff_not] at h28)
          ((repeat refine JC.seq ?_); refine JC.region ?_)
          refine JL.pure rfl rfl ?_
          refine JL.loadB 3 H rfl sh52 rfl rfl rfl ?_
          refine JL.fieldAddr rfl Try.underlying140 rfl sh3 rfl ?_
          refine JL.loadB 0 H rfl sh3 rfl rfl rfl ?_
          refine JL.fieldAddr rfl Try.underlying140 rfl sh3 rfl ?_
          refine JL.loadB 0 H rfl sh3 rfl rfl rfl ?_
          refine JL.fieldAddr rfl Try.underlying140 rfl sh3 rfl ?_
          refine JL.loadB 1 H rfl sh3 rfl rfl rfl ?_
          refine JL.pure rfl rfl ?_
          refine JL.fieldAddr rfl Try.underlying140 rfl sh3 rfl ?_
          refine JL.loadB 0 H rfl sh3 rfl rfl rfl ?_
          refine JL.fieldAddr rfl Try.underlying140 rfl sh3 rfl ?_
          refine JL.loadB 1 H rfl sh3 rfl rfl rfl ?_
          refine JL.pure rfl rfl ?_
          have H := H.front 2 rfl
          refine JL.call fb134 rfl rfl (add_c H _ _ _ _ _ _ _ hgH hgW.2 (fun l hl => by have := hT.le l hl; simp only [List.length_cons] at hk; omega)) ?_
          rintro _ w3 ⟨rfl, H⟩
          refine ⟨_, rfl, ?_⟩
          refine JL.nil ?_
          ((repeat refine Ex.normal_block ?_); refine Ex.next ?_)
          ((repeat refine JC.seq ?_); refine JC.region ?_)
          refine JL.fieldAddr rfl Try.underlying140 rfl sh3 rfl ?_
          refine JL.loadB 1 H rfl sh3 rfl rfl rfl ?_
          refine JL.fieldAddr rfl Try.underlying140 rfl sh3 rfl ?_
          refine JL.loadB 2 H rfl sh3 rfl rfl rfl ?_
          refine JL.pure rfl rfl ?_
          refine JL.pure rfl rfl ?_
          refine JL.cases 49 rfl ?_ ?_
          · intro h49
            (try simp only [Bool.not_eq_true', Bool.not_eq_false', decide_eq_true_eq, decide_eq_false_iff_not] at h49)
            refine JL.pass rfl rfl rfl rfl ?_
            refine JL.pass rfl rfl rfl rfl ?_
            refine JL.pass rfl rfl rfl rfl ?_
            refine JL.pass rfl rfl rfl rfl ?_
            refine JL.pass rfl rfl rfl rfl ?_
            refine JL.pass rfl rfl rfl rfl ?_
            refine JL.passU rfl rfl rfl ?_
            refine JL.passU rfl rfl rfl ?_
            refine JL.passU rfl rfl rfl ?_
            refine JL.passU rfl rfl rfl ?_
            refine JL.passU rfl rfl rfl ?_
            refine JL.pass rfl rfl rfl rfl ?_
            refine JL.pure rfl rfl ?_
            refine JL.nil ?_
            ((repeat refine Ex.normal_block ?_); refine Ex.next ?_)
            ((repeat refine JC.seq ?_); refine JC.cond rfl (fun _ => ?_) (fun h => by cases h))
            ((repeat refine JC.seq ?_); refine JC.region ?_)
            refine JL.pure rfl rfl ?_
            have hcond : x.Y < y.Y ∨ x.Y = y.Y ∧ x.To < y.To := by omega
            refine JL.slice1 rfl rfl Try.underlying50 sh140 (by simp) rfl ?_
            refine JL.pure rfl rfl ?_
            refine JL.nil ?_
            (repeat refine Ex.normal_block ?_)
            have H := H.drop 2
            have H := H.drop 1
            rw [bothT_cons] at he
            rw [if_pos h28] at he
            replace hT := hT.add g.H x.Y (max x.From y.From) (min x.To y.To)
            rw [if_pos hcond] at he
            refine Ex.again (_, _, xa', y :: xb', _, k' + 1) ⟨rfl, rfl, rfl, rfl, trivial⟩ ⟨fun w' T'' h => (ha w' T'' h).tail hca, hb, ?_, hcb, hT, ?_, he, H⟩ (by simp)
            · simp only [capOK] at hca ⊢; omega
            · simp only [List.length_cons] at hk ⊢; omega
          · intro h49
            (try simp only [Bool.not_eq_true', Bool.not_eq_false', decide_eq_true_eq, decide_eq_false_iff_not] at h49)
            refine JL.want rfl rfl ?_
            refine JL.fieldAddr rfl Try.underlying140 rfl sh3 rfl ?_
            refine JL.want rfl rfl ?_
            refine JL.loadB 1 H rfl sh3 rfl rfl rfl ?_
            refine JL.want rfl rfl ?_
            refine JL.fieldAddr rfl Try.underlying140 rfl sh3 rfl ?_
            refine JL.want rfl rfl ?_
            refine JL.loadB 2 H rfl sh3 rfl rfl rfl ?_
            refine JL.want rfl rfl ?_
            refine JL.pure rfl rfl ?_
            refine JL.want rfl rfl ?_
            refine JL.pure rfl rfl ?_
            refine JL.cases 55 rfl ?_ ?_
            · intro h55
              (try simp only [Bool.not_eq_true', Bool.not_eq_false', decide_eq_true_eq, decide_eq_false_iff_not] at h55)
              refine JL.want rfl rfl ?_
              refine JL.fieldAddr rfl Try.underlying140 rfl sh3 rfl ?_
              refine JL.want rfl rfl ?_
              refine JL.loadB 1 H rfl sh3 rfl rfl rfl ?_
              refine JL.want rfl rfl ?_
              refine JL.fieldAddr rfl Try.underlying140 rfl sh3 rfl ?_
              refine JL.want rfl rfl ?_
              refine JL.loadB 2 H rfl sh3 rfl rfl rfl ?_
              refine JL.want rfl rfl ?_
              refine JL.pure rfl rfl ?_
              refine JL.want rfl rfl ?_
              refine JL.pure rfl rfl ?_
              refine JL.pure rfl rfl ?_
              refine JL.nil ?_
              ((repeat refine Ex.normal_block ?_); refine Ex.next ?_)
              ((repeat refine JC.seq ?_); refine JC.cond rfl ?_ ?_)
              · intro h62
                (try simp only [Bool.not_eq_true', Bool.not_eq_false', decide_eq_true_eq, decide_eq_false_iff_not] at h62)
                ((repeat refine JC.seq ?_); refine JC.region ?_)
                refine JL.pure rfl rfl ?_
                have hcond : x.Y < y.Y ∨ x.Y = y.Y ∧ x.To < y.To := by omega
                refine JL.slice1 rfl rfl Try.underlying50 sh140 (by simp) rfl ?_
                refine JL.pure rfl rfl ?_
                refine JL.nil ?_
                (repeat refine Ex.normal_block ?_)
                have H := H.drop 2
                have H := H.drop 1
                rw [bothT_cons] at he
                rw [if_pos h28] at he
                replace hT := hT.add g.H x.Y (max x.From y.From) (min x.To y.To)
                rw [if_pos hcond] at he
                refine Ex.again (_, _, xa', y :: xb', _, k' + 1) ⟨rfl, rfl, rfl, rfl, trivial⟩ ⟨fun w' T'' h => (ha w' T'' h).tail hca, hb, ?_, hcb, hT, ?_, he, H⟩ (by simp)
                · simp only [capOK] at hca ⊢; omega
                · simp only [List.length_cons] at hk ⊢; omega
              · intro h62
                (try simp only [Bool.not_eq_true', Bool.not_eq_false', decide_eq_true_eq, decide_eq_false_iff_not] at h62)
                ((repeat refine JC.seq ?_); refine JC.region ?_)
                refine JL.pure rfl rfl ?_
                have hcond : ¬ (x.Y < y.Y ∨ x.Y = y.Y ∧ x.To < y.To) := by omega
                refine JL.slice1 rfl rfl Try.underlying50 sh140 (by simp) rfl ?_
                refine JL.pure rfl rfl ?_
                refine JL.nil ?_
                (repeat refine Ex.normal_block ?_)
                have H := H.drop 2
                have H := H.drop 1
                rw [bothT_cons] at he
                rw [if_pos h28] at he
                replace hT := hT.add g.H x.Y (max x.From y.From) (min x.To y.To)
                rw [if_neg hcond] at he
                refine Ex.again (_, _, x :: xa', xb', _, k' + 1) ⟨rfl, rfl, rfl, rfl, trivial⟩ ⟨ha, fun w' T'' h => (hb w' T'' h).tail hcb, hca, ?_, hT, ?_, he, H⟩ (by simp)
                · simp only [capOK] at hcb ⊢; omega
                · simp only [List.length_cons] at hk ⊢; omega
            · intro h55
              (try simp only [Bool.not_eq_true', Bool.not_eq_false', decide_eq_true_eq, decide_eq_false_iff_not] at h55)
              refine JL.pass rfl rfl rfl rfl ?_
              refine JL.pass rfl rfl rfl rfl ?_
              refine JL.pass rfl rfl rfl rfl ?_
              refine JL.pass rfl rfl rfl rfl ?_
              refine JL.pass rfl rfl rfl rfl ?_
              refine JL.want rfl rfl ?_
              refine JL.pure rfl rfl ?_
              refine JL.pure rfl rfl ?_
              refine JL.nil ?_
              ((repeat refine Ex.normal_block ?_); refine Ex.next ?_)
              ((repeat refine JC.seq ?_); refine JC.cond rfl (fun h => by cases h) (fun _ => ?_))
              ((repeat refine JC.seq ?_); refine JC.region ?_)
              refine JL.pure rfl rfl ?_
              have hcond : ¬ (x.Y < y.Y ∨ x.Y = y.Y ∧ x.To < y.To) := by omega
              refine JL.slice1 rfl rfl Try.underlying50 sh140 (by simp) rfl ?_
              refine JL.pure rfl rfl ?_
              refine JL.nil ?_
              (repeat refine Ex.normal_block ?_)
              have H := H.drop 2
              have H := H.drop 1
              rw [bothT_cons] at he
              rw [if_pos h28] at he
              replace hT := hT.add g.H x.Y (max x.From y.From) (min x.To y.To)
              rw [if_neg hcond] at he
              refine Ex.again (_, _, x :: xa', xb', _, k' + 1) ⟨rfl, rfl, rfl, rfl, trivial⟩ ⟨ha, fun w' T'' h => (hb w' T'' h).tail hcb, hca, ?_, hT, ?_, he, H⟩ (by simp)
              · simp only [capOK] at hcb ⊢; omega
              · simp only [List.length_cons] at hk ⊢; omega
        · intro h28
          (try simp only [Bool.not_eq_true', Bool.not_eq_false', decide_eq_true_eq, decide_eq_false_iff_not] at h28)
          ((repeat refine JC.seq ?_); refine JC.skip ?_)
          ((repeat refine Ex.normal_block ?_); refine Ex.next ?_)
          ((repeat refine JC.seq ?_); refine JC.region ?_)
          refine JL.fieldAddr rfl Try.underlying140 rfl sh3 rfl ?_
          refine JL.loadB 0 H rfl sh3 rfl rfl rfl ?_
          refine JL.fieldAddr rfl Try.underlying140 rfl sh3 rfl ?_
          refine JL.loadB 1 H rfl sh3 rfl rfl rfl ?_
          refine JL.pure rfl rfl ?_
          refine JL.pure rfl rfl ?_
          refine JL.cases 49 rfl ?_ ?_
          · intro h49
            (try simp only [Bool.not_eq_true', Bool.not_eq_false', decide_eq_true_eq, decide_eq_false_iff_not] at h49)
            refine JL.pass rfl rfl rfl rfl ?_
            refine JL.pass rfl rfl rfl rfl ?_
            refine JL.pass rfl rfl rfl rfl ?_
            refine JL.pass rfl rfl rfl rfl ?_
            refine JL.pass rfl rfl rfl rfl ?_
            refine JL.pass rfl rfl rfl rfl ?_
            refine JL.passU rfl rfl rfl ?_
            refine JL.passU rfl rfl rfl ?_
            refine JL.passU rfl rfl rfl ?_
            refine JL.passU rfl rfl rfl ?_
            refine JL.passU rfl rfl rfl ?_
            refine JL.pass rfl rfl rfl rfl ?_
            refine JL.pure rfl rfl ?_
            refine JL.nil ?_
            ((repeat refine Ex.normal_block ?_); refine Ex.next ?_)
            ((repeat refine JC.seq ?_); refine JC.cond rfl (fun _ => ?_) (fun h => by cases h))
            ((repeat refine JC.seq ?_); refine JC.region ?_)
            refine JL.pure rfl rfl ?_
            have hcond : x.Y < y.Y ∨ x.Y = y.Y ∧ x.To < y.To := by omega
            refine JL.slice1 rfl rfl Try.underlying50 sh140 (by simp) rfl ?_
            refine JL.pure rfl rfl ?_
            refine JL.nil ?_
            (repeat refine Ex.normal_block ?_)
            have H := H.drop 1
            have H := H.drop 0
            rw [bothT_cons] at he
            rw [if_neg h28] at he
            replace hT := hT.mono (Nat.le_succ _)
            rw [if_pos hcond] at he
            refine Ex.again (_, _, xa', y :: xb', _, k' + 1) ⟨rfl, rfl, rfl, rfl, trivial⟩ ⟨fun w' T'' h => (ha w' T'' h).tail hca, hb, ?_, hcb, hT, ?_, he, H⟩ (by simp)
            · simp only [capOK] at hca ⊢; omega
            · simp only [List.length_cons] at hk ⊢; omega
          · intro h49
            (try simp only [Bool.not_eq_true', Bool.not_eq_false', decide_eq_true_eq, decide_eq_false_iff_not] at h49)
            refine JL.want rfl rfl ?_
            refine JL.fieldAddr rfl Try.underlying140 rfl sh3 rfl ?_
            refine JL.want rfl rfl ?_
            refine JL.loadB 0 H rfl sh3 rfl rfl rfl ?_
            refine JL.want rfl rfl ?_
            refine JL.fieldAddr rfl Try.underlying140 rfl sh3 rfl ?_
            refine JL.want rfl rfl ?_
            refine JL.loadB 1 H rfl sh3 rfl rfl rfl ?_
            refine JL.want rfl rfl ?_
            refine JL.pure rfl rfl ?_
            refine JL.want rfl rfl ?_
            refine JL.pure rfl rfl ?_
            refine JL.cases 55 rfl ?_ ?_
            · intro h55
              (try simp only [Bool.not_eq_true', Bool.not_eq_false', decide_eq_true_eq, decide_eq_false_iff_not] at h55)
              refine JL.want rfl rfl ?_
              refine JL.fieldAddr rfl Try.underlying140 rfl sh3 rfl ?_
              refine JL.want rfl rfl ?_
              refine JL.loadB 0 H rfl sh3 rfl rfl rfl ?_
              refine JL.want rfl rfl ?_
              refine JL.fieldAddr rfl Try.underlying140 rfl sh3 rfl ?_
              refine JL.want rfl rfl ?_
              refine JL.loadB 1 H rfl sh3 rfl rfl rfl ?_
              refine JL.want rfl rfl ?_
              refine JL.pure rfl rfl ?_
              refine JL.want rfl rfl ?_
              refine JL.pure rfl rfl ?_
              refine JL.pure rfl rfl ?_
              refine JL.nil ?_
              ((repeat refine Ex.normal_block ?_); refine Ex.next ?_)
              ((repeat refine JC.seq ?_); refine JC.cond rfl ?_ ?_)
              · intro h62
                (try simp only [Bool.not_eq_true', Bool.not_eq_false', decide_eq_true_eq, decide_eq_false_iff_not] at h62)
                ((repeat refine JC.seq ?_); refine JC.region ?_)
                refine JL.pure rfl rfl ?_
                have hcond : x.Y < y.Y ∨ x.Y = y.Y ∧ x.To < y.To := by omega
                refine JL.slice1 rfl rfl Try.underlying50 sh140 (by simp) rfl ?_
                refine JL.pure rfl rfl ?_
                refine JL.nil ?_
                (repeat refine Ex.normal_block ?_)
                have H := H.drop 1
                have H := H.drop 0
                rw [bothT_cons] at he
                rw [if_neg h28] at he
                replace hT := hT.mono (Nat.le_succ _)
                rw [if_pos hcond] at he
                refine Ex.again (_, _, xa', y :: xb', _, k' + 1) ⟨rfl, rfl, rfl, rfl, trivial⟩ ⟨fun w' T'' h => (ha w' T'' h).tail hca, hb, ?_, hcb, hT, ?_, he, H⟩ (by simp)
                · simp only [capOK] at hca ⊢; omega
                · simp only [List.length_cons] at hk ⊢; omega
              · intro h62
                (try simp only [Bool.not_eq_true', Bool.not_eq_false', decide_eq_true_eq, decide_eq_false_iff_not] at h62)
                ((repeat refine JC.seq ?_); refine JC.region ?_)
                refine JL.pure rfl rfl ?_
                have hcond : ¬ (x.Y < y.Y ∨ x.Y = y.Y ∧ x.To < y.To) := by omega
                refine JL.slice1 rfl rfl Try.underlying50 sh140 (by simp) rfl ?_
                refine JL.pure rfl rfl ?_
                refine JL.nil ?_
                (repeat refine Ex.normal_block ?_)
                have H := H.drop 1
                have H := H.drop 0
                rw [bothT_cons] at he
                rw [if_neg h28] at he
                replace hT := hT.mono (Nat.le_succ _)
                rw [if_neg hcond] at he
                refine Ex.again (_, _, x :: xa', xb', _, k' + 1) ⟨rfl, rfl, rfl, rfl, trivial⟩ ⟨ha, fun w' T'' h => (hb w' T'' h).tail hcb, hca, ?_, hT, ?_, he, H⟩ (by simp)
                · simp only [capOK] at hcb ⊢; omega
                · simp only [List.length_cons] at hk ⊢; omega
            · intro h55
              (try simp only [Bool.not_eq_true', Bool.not_eq_false', decide_eq_true_eq, decide_eq_false_iff_not] at h55)
              refine JL.pass rfl rfl rfl rfl ?_
              refine JL.pass rfl rfl rfl rfl ?_
              refine JL.pass rfl rfl rfl rfl ?_
              refine JL.pass rfl rfl rfl rfl ?_
              refine JL.pass rfl rfl rfl rfl ?_
              refine JL.want rfl rfl ?_
              refine JL.pure rfl rfl ?_
              refine JL.pure rfl rfl ?_
              refine JL.nil ?_
              ((repeat refine Ex.normal_block ?_); refine Ex.next ?_)
              ((repeat refine JC.seq ?_); refine JC.cond rfl (fun h => by cases h) (fun _ => ?_))
              ((repeat refine JC.seq ?_); refine JC.region ?_)
              refine JL.pure rfl rfl ?_
              have hcond : ¬ (x.Y < y.Y ∨ x.Y = y.Y ∧ x.To < y.To) := by omega
              refine JL.slice1 rfl rfl Try.underlying50 sh140 (by simp) rfl ?_
              refine JL.pure rfl rfl ?_
              refine JL.nil ?_
              (repeat refine Ex.normal_block ?_)
              have H := H.drop 1
              have H := H.drop 0
              rw [bothT_cons] at he
              rw [if_neg h28] at he
              replace hT := hT.mono (Nat.le_succ _)
              rw [if_neg hcond] at he
              refine Ex.again (_, _, x :: xa', xb', _, k' + 1) ⟨rfl, rfl, rfl, rfl, trivial⟩ ⟨ha, fun w' T'' h => (hb w' T'' h).tail hcb, hca, ?_, hT, ?_, he, H⟩ (by simp)
              · simp only [capOK] at hcb ⊢; omega
              · simp only [List.length_cons] at hk ⊢; omega
      · intro h17
        (try simp only [Bool.not_eq_true', Bool.not_eq_false', decide_eq_true_eq, decide_eq_false_iff_not] at h17)
        have hxs : xb' = [] := by
          cases xb' with
          | nil => rfl
          | cons x r => exfalso; simp at h17
        subst hxs
        ((repeat refine JC.seq ?_); refine JC.exit ?_)
        (repeat (first | refine Ex.exit_then ?_ | refine Ex.exit_miss (by decide) ?_))
        refine Ex.exit_hit ?_
        ((repeat refine Ex.normal_block ?_); refine Ex.end_ ?_)
        refine Ex.ret0 rfl ⟨rfl, ?_⟩
        rw [he, bothT_nil2]
        exact H.drop 1
    · intro h13
      (try simp only [Bool.not_eq_true', Bool.not_eq_false', decide_eq_true_eq, decide_eq_false_iff_not] at h13)
      have hxs : xa' = [] := by
        cases xa' with
        | nil => rfl
        | cons x r => exfalso; simp at h13
      subst hxs
      refine JL.pass rfl rfl rfl rfl ?_
      refine JL.pass rfl rfl rfl rfl ?_
      refine JL.pass rfl rfl rfl rfl ?_
      refine JL.pure rfl rfl ?_
      refine JL.nil ?_
      ((repeat refine Ex.normal_block ?_); refine Ex.next ?_)
      ((repeat refine JC.seq ?_); refine JC.cond rfl (fun h => by cases h) (fun _ => ?_))
      ((repeat refine JC.seq ?_); refine JC.exit ?_)
      (repeat (first | refine Ex.exit_then ?_ | refine Ex.exit_miss (by decide) ?_))
      refine Ex.exit_hit ?_
      ((repeat refine Ex.normal_block ?_); refine Ex.end_ ?_)
      refine Ex.ret0 rfl ⟨rfl, ?_⟩
      rw [he, bothT_nil1]
      exact H.drop 1
end Go.J
