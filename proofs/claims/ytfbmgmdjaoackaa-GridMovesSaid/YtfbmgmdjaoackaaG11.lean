/-
  Lemmas for the statements of this seat; no statement is proved here. No condition.
-/
import Derived.Test.YtfbmgmdjaoackaaG10
namespace Go.J
open Go.RowKit Go.Proofs
set_option maxRecDepth 8000
set_option linter.unusedSimpArgs false
set_option linter.unusedVariables false
/-- the cells of row y that runs have not, from a place on; and the runs behind the row -/
def othRow (W y : Int) : Int → List Run → List Run × List Run
  | at_, [] => (if at_ < W then [⟨y, at_, W⟩] else [], [])
  | at_, x :: r => if x.Y = y then
      ((if x.From > at_ then [⟨y, at_, x.From⟩] else []) ++ (othRow W y x.To r).1, (othRow W y x.To r).2)
    else (if at_ < W then [⟨y, at_, W⟩] else [], x :: r)
def othN (W : Int) : Nat → List Run → List Run × List Run
  | 0, r => ([], r)
  | n + 1, r => ((othN W n r).1 ++ (othRow W n 0 (othN W n r).2).1, (othRow W n 0 (othN W n r).2).2)
def othersR (g : Grid) (r : List Run) : List Run := (othN g.W g.H.toNat r).1
theorem othRow_len (W y : Int) : ∀ (r : List Run) (a : Int), (othRow W y a r).1.length + (othRow W y a r).2.length ≤ r.length + 1 := by
  intro r
  induction r with
  | nil => intro a; unfold othRow; split <;> simp
  | cons x r ih =>
    intro a
    unfold othRow
    split
    · have := ih x.To
      simp only [List.length_append, List.length_cons]
      split <;> simp <;> omega
    · split <;> simp <;> omega
theorem othN_len (W : Int) (r : List Run) : ∀ n, (othN W n r).1.length + (othN W n r).2.length ≤ r.length + n := by
  intro n
  induction n with
  | zero => simp [othN]
  | succ n ih =>
    unfold othN
    have := othRow_len W n (othN W n r).2 0
    simp only [List.length_append]
    omega
theorem others_c (g : Grid) (lv v : Value) (rs : List Run) (w : World) (hr : SlR w v rs) (hc : capOK v) (hgH : 1 ≤ g.H ∧ g.H ≤ 256) (hb : rs.length ≤ 1000000) (hall : ∀ r ∈ rs, True) :
    Calls Try.prog 147 #[g.ev lv, v] w (fun e w' => ∃ rv, e = .returned rv ∧ Own w w' [runRow rv (othersR g rs)]) := by
  refine calls_J (args := [g.ev lv, v]) Try.func147 rfl Try.ntmps147 rfl ?_
  have H := Own.start w
  ((repeat refine JC.seq ?_); refine JC.region ?_)
  refine JL.box H rfl rfl rfl ?_
  intro b2 w1 H
  refine JL.pure rfl rfl ?_
  refine JL.nil ?_
  ((repeat refine Ex.normal_block ?_); refine Ex.next ?_)
  ((repeat refine JC.seq ?_); refine JC.region ?_)
  refine JL.pure rfl rfl ?_
  refine JL.nil ?_
  ((repeat refine Ex.normal_block ?_); refine Ex.next ?_)
  ((repeat refine JC.seq ?_); refine JC.region ?_)
  refine JL.fieldAddr rfl Try.underlying52 rfl sh3 rfl ?_
  refine JL.loadB 0 H rfl sh3 rfl rfl rfl ?_
  refine JL.pure rfl rfl ?_
  refine JL.nil ?_
  ((repeat refine Ex.normal_block ?_); refine Ex.next ?_)
  ((repeat refine JC.seq ?_); refine JC.block ?_)
  ((repeat refine JC.seq ?_); refine JC.loop (ι := Nat × Value × Value) (fun x => [(1, x.2.1), (2, .pointer (some ⟨b2, 0, none⟩)), (5, x.2.2), (9, .int .i64 g.H), (10, .int .i64 x.1)])
    (fun x wr => x.1 ≤ g.H.toNat ∧ SlR w x.2.1 (othN g.W x.1 rs).2 ∧ capOK x.2.1 ∧ Own w wr [runRow x.2.2 (othN g.W x.1 rs).1, blk b2 (.cells ⟨[.int .i64 g.W, .int .i64 g.H, .int .i64 g.S, lv]⟩ 52 (0, 0))])
    (fun x => g.H.toNat - x.1) (0, v, .slice none 0 0) ?_ ?_ ?_)
  · exact ⟨rfl, rfl, rfl, rfl, rfl, trivial⟩
  · exact ⟨Nat.zero_le _, hr, hc, H.nilRow 140 3⟩
  · rintro ⟨y, rv, ov⟩ wr ⟨hy, hsl, hcap, H⟩
    simp only at hy hsl hcap H
    have hlen := othN_len g.W rs y
    generalize hon : othN g.W y rs = on at *
    obtain ⟨o1, o2⟩ := on
    simp only at hsl hcap H hlen
    ((repeat refine JC.seq ?_); refine JC.region ?_)
    refine JL.pure rfl rfl ?_
    refine JL.nil ?_
    ((repeat refine Ex.normal_block ?_); refine Ex.next ?_)
    ((repeat refine JC.seq ?_); refine JC.cond rfl ?_ ?_)
    · intro h11
      (try simp only [Bool.not_eq_true', Bool.not_eq_false', decide_eq_true_eq, decide_eq_false_iff_not] at h11)
      ((repeat refine JC.seq ?_); refine JC.skip ?_)
      ((repeat refine Ex.normal_block ?_); refine Ex.next ?_)
      ((repeat refine JC.seq ?_); refine JC.block ?_)
      ((repeat refine JC.seq ?_); refine JC.region ?_)
      refine JL.pure rfl rfl ?_
      refine JL.pure rfl rfl ?_
      refine JL.nil ?_
      ((repeat refine Ex.normal_block ?_); refine Ex.next ?_)
      ((repeat refine JC.seq ?_); refine JC.region ?_)
      refine JL.pure rfl rfl ?_
      refine JL.nil ?_
      ((repeat refine Ex.normal_block ?_); refine Ex.next ?_)
      ((repeat refine JC.seq ?_); refine JC.block ?_)
      ((repeat refine JC.seq ?_); refine JC.loop (ι := Value × Value × List Run × List Run × Int) (fun x => [(1, x.1), (2, .pointer (some ⟨b2, 0, none⟩)), (5, x.2.1), (6, .int .i64 y), (7, .int .i64 x.2.2.2.2), (9, .int .i64 g.H), (10, .int .i64 y)])
        (fun x wr => SlR w x.1 x.2.2.2.1 ∧ capOK x.1 ∧ x.2.2.1.length + x.2.2.2.1.length ≤ rs.length + y ∧ o1 ++ (othRow g.W y 0 o2).1 = x.2.2.1 ++ (othRow g.W y x.2.2.2.2 x.2.2.2.1).1 ∧ (othRow g.W y 0 o2).2 = (othRow g.W y x.2.2.2.2 x.2.2.2.1).2 ∧
          Own w wr [runRow x.2.1 x.2.2.1, blk b2 (.cells ⟨[.int .i64 g.W, .int .i64 g.H, .int .i64 g.S, lv]⟩ 52 (0, 0))])
        (fun x => x.2.2.2.1.length) (rv, ov, o1, o2, 0) ?_ ?_ ?_)
      · exact ⟨rfl, rfl, rfl, rfl, rfl, rfl, rfl, trivial⟩
      · exact ⟨hsl, hcap, hlen, rfl, rfl, H⟩
      · rintro ⟨rv, ov, oo, xs, at_⟩ wr ⟨hsl, hcap, hlen, he1, he2, H⟩
        simp only at hsl hcap hlen he1 he2 H
        have hslF := hsl
        obtain ⟨hsl1, a, cap, rfl, ha⟩ := hsl
        ((repeat refine JC.seq ?_); refine JC.region ?_)
        refine JL.pure rfl rfl ?_
        refine JL.len rfl Try.underlying50 rfl ?_
        refine JL.pure rfl rfl ?_
        refine JL.pure rfl rfl ?_
        refine JL.cases 16 rfl ?_ ?_
        · intro h16
          (try simp only [Bool.not_eq_true', Bool.not_eq_false', decide_eq_true_eq, decide_eq_false_iff_not] at h16)
          obtain ⟨x, xs, rfl⟩ : ∃ x r, xs = x :: r := by
            cases xs with
            | nil => simp at h16
            | cons x r => exact ⟨x, r, rfl⟩
          obtain ⟨β, off, rfl, hβ, hld⟩ := ha.resolve_left (by simp)
          have hx := hld 0 x rfl
          refine JL.want rfl rfl ?_
          refine JL.pure rfl rfl ?_
          refine JL.want rfl rfl ?_
          refine JL.indexS 0 rfl rfl Try.underlying50 sh140 rfl (by simp) rfl ?_
          refine JL.want rfl rfl ?_
          refine JL.fieldAddr rfl Try.underlying140 rfl sh3 rfl ?_
          refine JL.want rfl rfl ?_
          refine JL.load rfl sh3 ((hx.part 0 rfl 1).grow hβ H.below) rfl ?_
          refine JL.want rfl rfl ?_
          refine JL.pure rfl rfl ?_
          refine JL.want rfl rfl ?_
          refine JL.pure rfl rfl ?_
          refine JL.pure rfl rfl ?_
          refine JL.nil ?_
          ((repeat refine Ex.normal_block ?_); refine Ex.next ?_)
          ((repeat refine JC.seq ?_); refine JC.cond rfl ?_ ?_)
          · intro h23
            (try simp only [Bool.not_eq_true', Bool.not_eq_false', decide_eq_true_eq, decide_eq_false_iff_not] at h23)
            
            ((repeat refine JC.seq ?_); refine JC.skip ?_)
            ((repeat refine Ex.normal_block ?_); refine Ex.next ?_)
            ((repeat refine JC.seq ?_); refine JC.block ?_)
            ((repeat refine JC.seq ?_); refine JC.region ?_)
            refine JL.pure rfl rfl ?_
            refine JL.indexS 0 rfl rfl Try.underlying50 sh140 rfl (by simp) rfl ?_
            refine JL.fieldAddr rfl Try.underlying140 rfl sh3 rfl ?_
            refine JL.load rfl sh3 ((hx.part 1 rfl 1).grow hβ H.below) rfl ?_
            refine JL.pure rfl rfl ?_
            refine JL.pure rfl rfl ?_
            refine JL.nil ?_
            ((repeat refine Ex.normal_block ?_); refine Ex.next ?_)
            ((repeat refine JC.seq ?_); refine JC.cond rfl ?_ ?_)
            · intro h29
              (try simp only [Bool.not_eq_true', Bool.not_eq_false', decide_eq_true_eq, decide_eq_false_iff_not] at h29)
              ((repeat refine JC.seq ?_); refine JC.region ?_)
              refine JL.pure rfl rfl ?_
              refine JL.pure rfl rfl ?_
              refine JL.pure rfl rfl ?_
              refine JL.pure rfl rfl ?_
              refine JL.indexS 0 rfl rfl Try.underlying50 sh140 rfl (by simp) rfl ?_
              refine JL.fieldAddr rfl Try.underlying140 rfl sh3 rfl ?_
              refine JL.load rfl sh3 ((hx.part 1 rfl 1).grow hβ H.below) rfl ?_
              refine JL.build s140 rfl rfl ?_
              refine JL.buildSlice H Try.underlying50 sh140 z140 rfl rfl rfl rfl rfl ?_
              intro b38 w2 H
              refine JL.append1 (news := [.int .i64 y, .int .i64 at_, .int .i64 x.From]) 1 0 H Try.underlying50 ap140 rfl rfl rfl rfl rfl rfl (by simp only [List.length_cons, List.length_nil] at hlen; omega) (by simp only [List.length_cons, List.length_nil] at hlen; omega) rfl ?_
              intro ov2 wa H
              replace H := H.cast (L := _ :: runRow ov2 (oo ++ [⟨y, at_, x.From⟩]) :: _) (by unfold runRow; rw [← trow_snoc]; rfl)
              have H := H.drop 0
              refine JL.pure rfl rfl ?_
              refine JL.nil ?_
              ((repeat refine Ex.normal_block ?_); refine Ex.next ?_)
              ((repeat refine JC.seq ?_); refine JC.draw 8 H mixed (by kernel_rfl) rfl ?_)
              refine JD.pure rfl rfl ?_
              refine JD.indexS 0 rfl rfl Try.underlying50 sh140 rfl (by simp) rfl ?_
              refine JD.fieldAddr rfl Try.underlying140 rfl sh3 rfl ?_
              refine JD.load rfl sh3 (fun w hw => (hx.part 2 rfl 1).grow hβ hw.below) rfl ?_
              refine JD.pure rfl rfl ?_
              refine JD.slice1 rfl rfl Try.underlying50 sh140 (by simp) rfl ?_
              refine JD.pure rfl rfl ?_
              refine JD.pure rfl rfl ?_
              refine JD.nil ?_
              intro w3 H
              show JL _ _ _ _ _ _ _
              refine JL.nil ?_
              (repeat refine Ex.normal_block ?_)
              have heq : othRow g.W y at_ (x :: xs) = ((if x.From > at_ then [⟨y, at_, x.From⟩] else []) ++ (othRow g.W y x.To xs).1, (othRow g.W y x.To xs).2) := by
                rw [othRow, if_pos h23]
              rw [heq] at he1 he2
              rw [if_pos h29] at he1
              refine Ex.again (_, ov2, oo ++ [(⟨y, at_, x.From⟩ : Run)], xs, x.To) ⟨rfl, rfl, rfl, rfl, rfl, rfl, rfl, trivial⟩ ⟨hslF.tail hcap, ?_, ?_, ?_, he2, H⟩ (by simp)
              · simp only [capOK] at hcap ⊢; omega
              · simp only [List.length_append, List.length_cons, List.length_nil] at hlen ⊢; omega
              · simp only; rw [he1, List.append_assoc]
            · intro h29
              (try simp only [Bool.not_eq_true', Bool.not_eq_false', decide_eq_true_eq, decide_eq_false_iff_not] at h29)
              ((repeat refine JC.seq ?_); refine JC.skip ?_)
              ((repeat refine Ex.normal_block ?_); refine Ex.next ?_)
              ((repeat refine JC.seq ?_); refine JC.draw 8 H mixed (by kernel_rfl) rfl ?_)
              refine JD.pure rfl rfl ?_
              refine JD.indexS 0 rfl rfl Try.underlying50 sh140 rfl (by simp) rfl ?_
              refine JD.fieldAddr rfl Try.underlying140 rfl sh3 rfl ?_
              refine JD.load rfl sh3 (fun w hw => (hx.part 2 rfl 1).grow hβ hw.below) rfl ?_
              refine JD.pure rfl rfl ?_
              refine JD.slice1 rfl rfl Try.underlying50 sh140 (by simp) rfl ?_
              refine JD.pure rfl rfl ?_
              refine JD.pure rfl rfl ?_
              refine JD.nil ?_
              intro w4 H
              show JL _ _ _ _ _ _ _
              refine JL.nil ?_
              (repeat refine Ex.normal_block ?_)
              have heq : othRow g.W y at_ (x :: xs) = ((if x.From > at_ then [⟨y, at_, x.From⟩] else []) ++ (othRow g.W y x.To xs).1, (othRow g.W y x.To xs).2) := by
                rw [othRow, if_pos h23]
              rw [heq] at he1 he2
              rw [if_neg h29, List.nil_append] at he1
              refine Ex.again (_, ov, oo, xs, x.To) ⟨rfl, rfl, rfl, rfl, rfl, rfl, rfl, trivial⟩ ⟨hslF.tail hcap, ?_, ?_, he1, he2, H⟩ (by simp)
              · simp only [capOK] at hcap ⊢; omega
              · simp only [List.length_cons] at hlen ⊢; omega
          · intro h23
            (try simp only [Bool.not_eq_true', Bool.not_eq_false', decide_eq_true_eq, decide_eq_false_iff_not] at h23)
            have hfin : othRow g.W y at_ (x :: xs) = (if at_ < g.W then [⟨y, at_, g.W⟩] else [], x :: xs) := by
              rw [othRow, if_neg h23]
            ((repeat refine JC.seq ?_); refine JC.exit ?_)
            (repeat (first | refine Ex.exit_then ?_ | refine Ex.exit_miss (by decide) ?_))
            refine Ex.exit_hit ?_
            ((repeat refine Ex.normal_block ?_); refine Ex.next ?_)
            ((repeat refine JC.seq ?_); refine JC.region ?_)
            refine JL.pure rfl rfl ?_
            refine JL.fieldAddr rfl Try.underlying52 rfl sh3 rfl ?_
            refine JL.loadB 1 H rfl sh3 rfl rfl rfl ?_
            refine JL.pure rfl rfl ?_
            refine JL.nil ?_
            ((repeat refine Ex.normal_block ?_); refine Ex.next ?_)
            ((repeat refine JC.seq ?_); refine JC.cond rfl ?_ ?_)
            · intro h49
              (try simp only [Bool.not_eq_true', Bool.not_eq_false', decide_eq_true_eq, decide_eq_false_iff_not] at h49)
              ((repeat refine JC.seq ?_); refine JC.region ?_)
              refine JL.pure rfl rfl ?_
              refine JL.pure rfl rfl ?_
              refine JL.pure rfl rfl ?_
              refine JL.fieldAddr rfl Try.underlying52 rfl sh3 rfl ?_
              refine JL.loadB 1 H rfl sh3 rfl rfl rfl ?_
              refine JL.build s140 rfl rfl ?_
              refine JL.buildSlice H Try.underlying50 sh140 z140 rfl rfl rfl rfl rfl ?_
              intro b56 w5 H
              refine JL.append1 (news := [.int .i64 y, .int .i64 at_, .int .i64 g.W]) 1 0 H Try.underlying50 ap140 rfl rfl rfl rfl rfl rfl (by simp only [List.length_cons, List.length_nil] at hlen; omega) (by simp only [List.length_cons, List.length_nil] at hlen; omega) rfl ?_
              intro ov2 wa H
              replace H := H.cast (L := _ :: runRow ov2 (oo ++ [⟨y, at_, g.W⟩]) :: _) (by unfold runRow; rw [← trow_snoc]; rfl)
              have H := H.drop 0
              refine JL.pure rfl rfl ?_
              refine JL.nil ?_
              ((repeat refine Ex.normal_block ?_); refine Ex.next ?_)
              ((repeat refine JC.seq ?_); refine JC.region ?_)
              refine JL.arith rfl (by unfold In64; omega) rfl ?_
              refine JL.pure rfl rfl ?_
              refine JL.nil ?_
              (repeat refine Ex.normal_block ?_)
              rw [hfin] at he1 he2
              simp only at he1 he2
              have hstep : othN g.W (y + 1) rs = (o1 ++ (othRow g.W y 0 o2).1, (othRow g.W y 0 o2).2) := by
                rw [othN, hon]
              rw [he1, he2] at hstep
              rw [if_pos h49] at hstep
              refine Ex.again (y + 1, _, ov2) ⟨rfl, rfl, rfl, rfl, rfl, trivial⟩ ⟨by omega, ?_, hcap, ?_⟩ (by simp; omega)
              · simp only; rw [hstep]; exact hslF
              · simp only; rw [hstep]; exact H
            · intro h49
              (try simp only [Bool.not_eq_true', Bool.not_eq_false', decide_eq_true_eq, decide_eq_false_iff_not] at h49)
              ((repeat refine JC.seq ?_); refine JC.skip ?_)
              ((repeat refine Ex.normal_block ?_); refine Ex.next ?_)
              ((repeat refine JC.seq ?_); refine JC.region ?_)
              refine JL.arith rfl (by unfold In64; omega) rfl ?_
              refine JL.pure rfl rfl ?_
              refine JL.nil ?_
              (repeat refine Ex.normal_block ?_)
              rw [hfin] at he1 he2
              simp only at he1 he2
              have hstep : othN g.W (y + 1) rs = (o1 ++ (othRow g.W y 0 o2).1, (othRow g.W y 0 o2).2) := by
                rw [othN, hon]
              rw [he1, he2] at hstep
              rw [if_neg h49, List.append_nil] at hstep
              refine Ex.again (y + 1, _, ov) ⟨rfl, rfl, rfl, rfl, rfl, trivial⟩ ⟨by omega, ?_, hcap, ?_⟩ (by simp; omega)
              · simp only; rw [hstep]; exact hslF
              · simp only; rw [hstep]; exact H
        · intro h16
          (try simp only [Bool.not_eq_true', Bool.not_eq_false', decide_eq_true_eq, decide_eq_false_iff_not] at h16)
          have hxs : xs = [] := by
            cases xs with
            | nil => rfl
            | cons x r => exfalso; simp at h16
          subst hxs
          have hfin : othRow g.W y at_ [] = (if at_ < g.W then [⟨y, at_, g.W⟩] else [], []) := rfl
          refine JL.pass rfl rfl rfl rfl ?_
          refine JL.pass rfl rfl rfl rfl ?_
          refine JL.pass rfl rfl rfl rfl ?_
          refine JL.pass rfl rfl rfl rfl ?_
          refine JL.pass rfl rfl rfl rfl ?_
          refine JL.pass rfl rfl rfl rfl ?_
          refine JL.pure rfl rfl ?_
          refine JL.nil ?_
          ((repeat refine Ex.normal_block ?_); refine Ex.next ?_)
          ((repeat refine JC.seq ?_); refine JC.cond rfl (fun h => by cases h) (fun _ => ?_))
          ((repeat refine JC.seq ?_); refine JC.exit ?_)
          (repeat (first | refine Ex.exit_then ?_ | refine Ex.exit_miss (by decide) ?_))
          refine Ex.exit_hit ?_
          ((repeat refine Ex.normal_block ?_); refine Ex.next ?_)
          ((repeat refine JC.seq ?_); refine JC.region ?_)
          refine JL.pure rfl rfl ?_
          refine JL.fieldAddr rfl Try.underlying52 rfl sh3 rfl ?_
          refine JL.loadB 1 H rfl sh3 rfl rfl rfl ?_
          refine JL.pure rfl rfl ?_
          refine JL.nil ?_
          ((repeat refine Ex.normal_block ?_); refine Ex.next ?_)
          ((repeat refine JC.seq ?_); refine JC.cond rfl ?_ ?_)
          · intro h49
            (try simp only [Bool.not_eq_true', Bool.not_eq_false', decide_eq_true_eq, decide_eq_false_iff_not] at h49)
            ((repeat refine JC.seq ?_); refine JC.region ?_)
            refine JL.pure rfl rfl ?_
            refine JL.pure rfl rfl ?_
            refine JL.pure rfl rfl ?_
            refine JL.fieldAddr rfl Try.underlying52 rfl sh3 rfl ?_
            refine JL.loadB 1 H rfl sh3 rfl rfl rfl ?_
            refine JL.build s140 rfl rfl ?_
            refine JL.buildSlice H Try.underlying50 sh140 z140 rfl rfl rfl rfl rfl ?_
            intro b56_5 w6 H
            refine JL.append1 (news := [.int .i64 y, .int .i64 at_, .int .i64 g.W]) 1 0 H Try.underlying50 ap140 rfl rfl rfl rfl rfl rfl (by simp only [List.length_cons, List.length_nil] at hlen; omega) (by simp only [List.length_cons, List.length_nil] at hlen; omega) rfl ?_
            intro ov2 wa H
            replace H := H.cast (L := _ :: runRow ov2 (oo ++ [⟨y, at_, g.W⟩]) :: _) (by unfold runRow; rw [← trow_snoc]; rfl)
            have H := H.drop 0
            refine JL.pure rfl rfl ?_
            refine JL.nil ?_
            ((repeat refine Ex.normal_block ?_); refine Ex.next ?_)
            ((repeat refine JC.seq ?_); refine JC.region ?_)
            refine JL.arith rfl (by unfold In64; omega) rfl ?_
            refine JL.pure rfl rfl ?_
            refine JL.nil ?_
            (repeat refine Ex.normal_block ?_)
            rw [hfin] at he1 he2
            simp only at he1 he2
            have hstep : othN g.W (y + 1) rs = (o1 ++ (othRow g.W y 0 o2).1, (othRow g.W y 0 o2).2) := by
              rw [othN, hon]
            rw [he1, he2] at hstep
            rw [if_pos h49] at hstep
            refine Ex.again (y + 1, _, ov2) ⟨rfl, rfl, rfl, rfl, rfl, trivial⟩ ⟨by omega, ?_, hcap, ?_⟩ (by simp; omega)
            · simp only; rw [hstep]; exact hslF
            · simp only; rw [hstep]; exact H
          · intro h49
            (try simp only [Bool.not_eq_true', Bool.not_eq_false', decide_eq_true_eq, decide_eq_false_iff_not] at h49)
            ((repeat refine JC.seq ?_); refine JC.skip ?_)
            ((repeat refine Ex.normal_block ?_); refine Ex.next ?_)
            ((repeat refine JC.seq ?_); refine JC.region ?_)
            refine JL.arith rfl (by unfold In64; omega) rfl ?_
            refine JL.pure rfl rfl ?_
            refine JL.nil ?_
            (repeat refine Ex.normal_block ?_)
            rw [hfin] at he1 he2
            simp only at he1 he2
            have hstep : othN g.W (y + 1) rs = (o1 ++ (othRow g.W y 0 o2).1, (othRow g.W y 0 o2).2) := by
              rw [othN, hon]
            rw [he1, he2] at hstep
            rw [if_neg h49, List.append_nil] at hstep
            refine Ex.again (y + 1, _, ov) ⟨rfl, rfl, rfl, rfl, rfl, trivial⟩ ⟨by omega, ?_, hcap, ?_⟩ (by simp; omega)
            · simp only; rw [hstep]; exact hslF
            · simp only; rw [hstep]; exact H
    · intro h11
      (try simp only [Bool.not_eq_true', Bool.not_eq_false', decide_eq_true_eq, decide_eq_false_iff_not] at h11)
      ((repeat refine JC.seq ?_); refine JC.exit ?_)
      (repeat (first | refine Ex.exit_then ?_ | refine Ex.exit_miss (by decide) ?_))
      refine Ex.exit_hit ?_
      ((repeat refine Ex.normal_block ?_); refine Ex.next ?_)
      ((repeat refine JC.seq ?_); refine JC.region ?_)
      refine JL.pure rfl rfl ?_
      refine JL.pure rfl rfl ?_
      refine JL.nil ?_
      ((repeat refine Ex.normal_block ?_); refine Ex.next ?_)
      ((repeat refine JC.seq ?_); refine JC.ret ?_)
      (repeat (first | refine Ex.ret_then ?_ | refine Ex.ret_block ?_))
      refine Ex.ret1 rfl (.tmp rfl) ⟨_, rfl, ?_⟩
      have hyy : y = g.H.toNat := by omega
      subst hyy
      unfold othersR
      rw [hon]
      exact H.drop 1
end Go.J
