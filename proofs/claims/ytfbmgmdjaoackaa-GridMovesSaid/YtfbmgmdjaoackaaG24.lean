/-
  Lemmas for the statements of this seat; no statement is proved here. No condition.
-/
import Derived.Test.YtfbmgmdjaoackaaPMoves
import Derived.Test.YtfbmgmdjaoackaaG20
import Derived.Test.YtfbmgmdjaoackaaJConv
namespace Go.J
open Go.RowKit Go.Proofs
set_option maxRecDepth 8000
set_option linter.unusedSimpArgs false
set_option linter.unusedVariables false
theorem cellsRun_bd {r : Run} (h : 0 ≤ r.From ∧ r.To ≤ 256) : (cellsRun r).length ≤ 256 := by rw [cellsRun_len]; omega
theorem cellsAll_bd : ∀ {rs : List Run}, (∀ r ∈ rs, 0 ≤ r.From ∧ r.To ≤ 256) → (cellsAll rs).length ≤ rs.length * 256 := by
  intro rs
  induction rs with
  | nil => intro _; simp [cellsAll]
  | cons r rs ih =>
    intro h
    have h1 := ih fun x hx => h x (List.mem_cons_of_mem _ hx)
    have h2 := cellsRun_bd (h r List.mem_cons_self)
    have h3 : cellsAll (r :: rs) = cellsRun r ++ cellsAll rs := rfl
    rw [h3, List.length_append, List.length_cons]
    omega
theorem cellsR_bd (g : Grid) (r : List Run) : (cellsR g r).1.length ≤ 2097152 := by
  unfold cellsR
  split
  · rename_i hc
    obtain ⟨hg, hall⟩ := checkedB_b hc
    obtain ⟨hW, hH, _, _⟩ := Grid.ok_b hg
    have h1 := right_iff.1 (hall r (by simp))
    have h2 := cellsAll_bd (rs := r) (fun x hx => by have := h1.1.rng x hx; omega)
    have := h1.2
    simp only
    omega
  · simp
theorem cells49_c (g : Grid) (lv rv : Value) (r : List Run) (w : World) (hl : SlR w lv g.land) (hr : SlR w rv r) :
    Calls Try.prog 49 #[g.ev lv, rv] w (fun e w' => ∃ v, e = .returned (.tuple #[v, .int .i64 (cellsR g r).2]) ∧ Own w w' [cellRow v (cellsR g r).1]) := by
  obtain ⟨ra, rc, rfl⟩ := hr.len
  refine calls_J (args := [g.ev lv, .slice ra r.length rc]) Try.func49 rfl Try.ntmps49 rfl ?_
  have H := Own.start w
  ((repeat refine JC.seq ?_); refine JC.region ?_)
  refine JL.box H rfl rfl rfl ?_
  intro b2 w1 H
  refine JL.pure rfl rfl ?_
  refine JL.pure rfl rfl ?_
  refine JL.nil ?_
  ((repeat refine Ex.normal_block ?_); refine Ex.next ?_)
  ((repeat refine JC.seq ?_); refine JC.region ?_)
  refine JL.loadB 0 H rfl sh52 rfl rfl rfl ?_
  refine JL.pure rfl rfl ?_
  refine JL.buildSlice H Try.underlying134 sh50 z50 rfl rfl rfl rfl rfl ?_
  intro b9 w2 H
  refine JL.callP H fb129 rfl rfl (checked_c g lv _ [(.slice ra r.length rc, r)] _ (hl.grow H.below) (H.blkSl1 (j := 0) (ev := Prod.fst) rfl [(.slice ra r.length rc, r)] rfl (by simp)) (by
    have hB := H.below
    intro p hp
    simp only [List.mem_cons, List.not_mem_nil, or_false] at hp
    subst hp
    exact hr.grow hB)) ?_
  intro w3 H _
  refine JL.pure rfl rfl ?_
  refine JL.nil ?_
  ((repeat refine Ex.normal_block ?_); refine Ex.next ?_)
  ((repeat refine JC.seq ?_); refine JC.region ?_)
  refine JL.pure rfl rfl ?_
  refine JL.pure rfl rfl ?_
  refine JL.nil ?_
  ((repeat refine Ex.normal_block ?_); refine Ex.next ?_)
  ((repeat refine JC.seq ?_); refine JC.cond rfl ?_ ?_)
  · intro h12
    (try simp only [Bool.not_eq_true', Bool.not_eq_false', decide_eq_true_eq, decide_eq_false_iff_not] at h12)
    have hok : checkedB g [r] = false := by
      cases hc : checkedB g [r] with
      | false => rfl
      | true => exfalso; simp [hc] at h12
    ((repeat refine JC.seq ?_); refine JC.region ?_)
    refine JL.pure rfl rfl ?_
    refine JL.pure rfl rfl ?_
    refine JL.pure rfl rfl ?_
    refine JL.nil ?_
    ((repeat refine Ex.normal_block ?_); refine Ex.next ?_)
    ((repeat refine JC.seq ?_); refine JC.ret ?_)
    (repeat (first | refine Ex.ret_then ?_ | refine Ex.ret_block ?_))
    refine Ex.ret2 rfl (.tmp rfl) (.tmp rfl) ?_
    unfold cellsR
    rw [hok]
    exact ⟨.slice none 0 0, by simp [hok], (((H.drop 0).drop 0).nilRow 62 2)⟩
  · intro h12
    (try simp only [Bool.not_eq_true', Bool.not_eq_false', decide_eq_true_eq, decide_eq_false_iff_not] at h12)
    have hok : checkedB g [r] = true := by
      cases hc : checkedB g [r] with
      | true => rfl
      | false => exfalso; simp [hc] at h12
    have hce : cellsR g r = (cellsAll r, 0) := by unfold cellsR; rw [if_pos hok]
    have hbd := cellsR_bd g r
    rw [hce] at hbd
    have hca := canon_of_right ((checkedB_b hok).2 r (by simp))
    obtain ⟨hW, hH, _, _⟩ := Grid.ok_b (checkedB_b hok).1
    ((repeat refine JC.seq ?_); refine JC.skip ?_)
    ((repeat refine Ex.normal_block ?_); refine Ex.next ?_)
    ((repeat refine JC.seq ?_); refine JC.region ?_)
    refine JL.pure rfl rfl ?_
    refine JL.call fb139 rfl rfl (cells_c _ ra r.length rc) ?_
    rintro _ w4 ⟨b9, rfl, K⟩
    have H := H.join K
    refine ⟨_, rfl, ?_⟩
    refine JL.call fb138 rfl rfl (collect_c (Rd := fun w => LdAt w b9 0 (false, 1) (.slice ra r.length rc) ∧ b9 < w.heap.size ∧ SlR w (.slice ra r.length rc) r) _ (by kernel_rfl) (fun w0 => cells_iter w0 b9 _ r (tame_right hW.2 hca)) (fun w' hw => ?_) (by simp only at hbd; omega)) ?_
    · have hg := H.get (i := 0) rfl
      have hlt := (Array.getElem?_eq_some_iff.1 hg.2).1
      exact ⟨(LdAt.of_block hg.2 rfl).grow hlt hw, Nat.lt_of_lt_of_le hlt hw.size, hr.grow (H.below.trans (hw.mono H.below.size))⟩
    rintro _ w5 ⟨v, rfl, K⟩
    have H := H.join K
    refine ⟨_, rfl, ?_⟩
    refine JL.pure rfl rfl ?_
    refine JL.pure rfl rfl ?_
    refine JL.nil ?_
    ((repeat refine Ex.normal_block ?_); refine Ex.next ?_)
    ((repeat refine JC.seq ?_); refine JC.ret ?_)
    (repeat (first | refine Ex.ret_then ?_ | refine Ex.ret_block ?_))
    refine Ex.ret2 rfl (.tmp rfl) (.tmp rfl) ?_
    rw [hce]
    exact ⟨_, rfl, ((H.drop 1).drop 1).drop 1⟩
theorem emod_bd {u S : Int} (hS : 1 ≤ S) : 0 ≤ u % S ∧ u % S ≤ S - 1 := by
  have h1 := Int.emod_nonneg u (show S ≠ 0 by omega)
  have h2 := Int.emod_lt_of_pos u (show 0 < S by omega)
  omega
def pickR (g : Grid) (c : Cell) (u : Int × Int) : Spot := ⟨c.X * g.S + u.1 % g.S, c.Y * g.S + u.2 % g.S⟩
theorem pick_c (g : Grid) (lv : Value) (c : Cell) (u : Int × Int) (w : World) (hS : 1 ≤ g.S ∧ g.S ≤ 50000) (hX : 0 ≤ c.X ∧ c.X ≤ 256) (hY : 0 ≤ c.Y ∧ c.Y ≤ 256) (h1 : 0 ≤ u.1 ∧ u.1 ≤ 4294967295) (h2 : 0 ≤ u.2 ∧ u.2 ≤ 4294967295) :
    Pur Try.prog 50 #[g.ev lv, c.ev, .agg ⟨[.int .u32 u.1, .int .u32 u.2]⟩] w (pickR g c u).ev := by
  have m1 := mul_bd (M := 0) hX.1 hX.2 (show 0 ≤ g.S by omega) hS.2
  have m2 := mul_bd (M := 0) hY.1 hY.2 (show 0 ≤ g.S by omega) hS.2
  have e1 := emod_bd (u := u.1) hS.1
  have e2 := emod_bd (u := u.2) hS.1
  refine pur_J (args := [g.ev lv, c.ev, .agg ⟨[.int .u32 u.1, .int .u32 u.2]⟩]) Try.func50 rfl Try.ntmps50 rfl ?_
  have H := Own.start w
  ((repeat refine JC.seq ?_); refine JC.region ?_)
  refine JL.box H rfl rfl rfl ?_
  intro b3 w1 H
  refine JL.box H rfl rfl rfl ?_
  intro b4 w2 H
  refine JL.box H rfl rfl rfl ?_
  intro b5 w3 H
  refine JL.alloc H z23 rfl ?_
  intro b6 w4 H
  refine JL.nil ?_
  ((repeat refine Ex.normal_block ?_); refine Ex.next ?_)
  ((repeat refine JC.seq ?_); refine JC.draw 25 H mixed (by kernel_rfl) rfl ?_)
  refine JD.fieldAddr rfl Try.underlying62 rfl sh3 rfl ?_
  refine JD.loadB 2 rfl sh3 rfl rfl rfl ?_
  refine JD.fieldAddr rfl Try.underlying52 rfl sh3 rfl ?_
  refine JD.loadB 3 rfl sh3 rfl rfl rfl ?_
  refine JD.arith rfl (by unfold In64; omega) rfl ?_
  refine JD.indexA 0 rfl rfl Try.underlying25 sh24 rfl (by decide) rfl ?_
  refine JD.loadB 1 rfl sh24 rfl rfl rfl ?_
  refine JD.convI rfl Try.underlying24 Try.underlying3 (by unfold In64; omega) rfl ?_
  refine JD.fieldAddr rfl Try.underlying52 rfl sh3 rfl ?_
  refine JD.loadB 3 rfl sh3 rfl rfl rfl ?_
  first
    | refine JD.remP rfl rfl (by omega) (by omega) rfl ?_
    | refine JD.rem rfl rfl (by omega) rfl ?_
  refine JD.arith rfl (by unfold In64; omega) rfl ?_
  refine JD.fieldAddr rfl Try.underlying62 rfl sh3 rfl ?_
  refine JD.loadB 2 rfl sh3 rfl rfl rfl ?_
  refine JD.fieldAddr rfl Try.underlying52 rfl sh3 rfl ?_
  refine JD.loadB 3 rfl sh3 rfl rfl rfl ?_
  refine JD.arith rfl (by unfold In64; omega) rfl ?_
  refine JD.indexA 1 rfl rfl Try.underlying25 sh24 rfl (by decide) rfl ?_
  refine JD.loadB 1 rfl sh24 rfl rfl rfl ?_
  refine JD.convI rfl Try.underlying24 Try.underlying3 (by unfold In64; omega) rfl ?_
  refine JD.fieldAddr rfl Try.underlying52 rfl sh3 rfl ?_
  refine JD.loadB 3 rfl sh3 rfl rfl rfl ?_
  first
    | refine JD.remP rfl rfl (by omega) (by omega) rfl ?_
    | refine JD.rem rfl rfl (by omega) rfl ?_
  refine JD.arith rfl (by unfold In64; omega) rfl ?_
  refine JD.build s23 rfl rfl ?_
  refine JD.nil ?_
  intro w5 H
  show JL _ _ _ _ _ _ _
  refine JL.storeB 0 H rfl rfl sh23 rfl rfl rfl rfl rfl ?_
  intro w6 H
  refine JL.nil ?_
  ((repeat refine Ex.normal_block ?_); refine Ex.next ?_)
  ((repeat refine JC.seq ?_); refine JC.ret ?_)
  (repeat (first | refine Ex.ret_then ?_ | refine Ex.ret_block ?_))
  refine Ex.ret1 rfl (.cell rfl sh23 (LdAt.of_block (H.get (i := 0) rfl).2 rfl)) ⟨rfl, H.below⟩
def ofR (lo hi u : Int) : Int := lo + u % (hi - lo + 1)
theorem of3_c (lo hi u : Int) (w : World) (hl : -16777216 ≤ lo ∧ lo ≤ hi) (hh : hi ≤ 16777216) (hu : 0 ≤ u ∧ u ≤ 4294967295) : Pur Try.prog 140 #[.int .i64 lo, .int .i64 hi, .int .u32 u] w (.int .i64 (ofR lo hi u)) := by
  have e1 := emod_bd (u := u) (S := hi - lo + 1) (by omega)
  refine pur_J (args := [.int .i64 lo, .int .i64 hi, .int .u32 u]) Try.func140 rfl Try.ntmps140 rfl ?_
  have H := Own.start w
  ((repeat refine JC.seq ?_); refine JC.region ?_)
  refine JL.pure rfl rfl ?_
  refine JL.nil ?_
  ((repeat refine Ex.normal_block ?_); refine Ex.next ?_)
  ((repeat refine JC.seq ?_); refine JC.region ?_)
  refine JL.pure rfl rfl ?_
  refine JL.pure rfl rfl ?_
  refine JL.convI rfl Try.underlying24 Try.underlying3 (by unfold In64; omega) rfl ?_
  refine JL.pure rfl rfl ?_
  refine JL.pure rfl rfl ?_
  refine JL.arith rfl (by unfold In64; omega) rfl ?_
  refine JL.arith rfl (by unfold In64; omega) rfl ?_
  first
    | refine JL.remP rfl rfl (by omega) (by omega) rfl ?_
    | refine JL.rem rfl rfl (by omega) rfl ?_
  refine JL.arith rfl (by unfold In64; omega) rfl ?_
  refine JL.pure rfl rfl ?_
  refine JL.nil ?_
  ((repeat refine Ex.normal_block ?_); refine Ex.next ?_)
  ((repeat refine JC.seq ?_); refine JC.ret ?_)
  (repeat (first | refine Ex.ret_then ?_ | refine Ex.ret_block ?_))
  refine Ex.ret1 rfl (.tmp rfl) ⟨rfl, H.below⟩
def moveR (p : Push) (u : Int × Int) : Spot := ⟨ofR p.Low.X p.High.X u.1, ofR p.Low.Y p.High.Y u.2⟩
theorem move_c (p : Push) (u : Int × Int) (w : World) (hp : p.ok = true) (h1 : 0 ≤ u.1 ∧ u.1 ≤ 4294967295) (h2 : 0 ≤ u.2 ∧ u.2 ≤ 4294967295) : Pur Try.prog 51 #[p.ev, .agg ⟨[.int .u32 u.1, .int .u32 u.2]⟩] w (moveR p u).ev := by
  have hpb : (-16777216 ≤ p.Low.X ∧ p.Low.X ≤ p.High.X) ∧ (-16777216 ≤ p.Low.Y ∧ p.Low.Y ≤ p.High.Y) ∧ max p.High.X p.High.Y ≤ 16777216 := by
    have := hp
    unfold Push.ok at this
    simpa [and_assoc] using this
  refine pur_J (args := [p.ev, .agg ⟨[.int .u32 u.1, .int .u32 u.2]⟩]) Try.func51 rfl Try.ntmps51 rfl ?_
  have H := Own.start w
  ((repeat refine JC.seq ?_); refine JC.region ?_)
  refine JL.box H rfl rfl rfl ?_
  intro b2 w1 H
  refine JL.box H rfl rfl rfl ?_
  intro b3 w2 H
  refine JL.alloc H z23 rfl ?_
  intro b4 w3 H
  refine JL.nil ?_
  ((repeat refine Ex.normal_block ?_); refine Ex.next ?_)
  ((repeat refine JC.seq ?_); refine JC.draw 19 H mixed (by kernel_rfl) rfl ?_)
  refine JD.fieldAddr rfl Try.underlying54 rfl sh23 rfl ?_
  refine JD.fieldAddr rfl Try.underlying23 rfl sh3 rfl ?_
  refine JD.loadB 2 rfl sh3 rfl rfl rfl ?_
  refine JD.fieldAddr rfl Try.underlying54 rfl sh23 rfl ?_
  refine JD.fieldAddr rfl Try.underlying23 rfl sh3 rfl ?_
  refine JD.loadB 2 rfl sh3 rfl rfl rfl ?_
  refine JD.indexA 0 rfl rfl Try.underlying25 sh24 rfl (by decide) rfl ?_
  refine JD.loadB 1 rfl sh24 rfl rfl rfl ?_
  refine JD.call fb140 rfl rfl (fun w hw => of3_c _ _ _ w (by omega) (by omega) (by omega)) ?_
  refine JD.fieldAddr rfl Try.underlying54 rfl sh23 rfl ?_
  refine JD.fieldAddr rfl Try.underlying23 rfl sh3 rfl ?_
  refine JD.loadB 2 rfl sh3 rfl rfl rfl ?_
  refine JD.fieldAddr rfl Try.underlying54 rfl sh23 rfl ?_
  refine JD.fieldAddr rfl Try.underlying23 rfl sh3 rfl ?_
  refine JD.loadB 2 rfl sh3 rfl rfl rfl ?_
  refine JD.indexA 1 rfl rfl Try.underlying25 sh24 rfl (by decide) rfl ?_
  refine JD.loadB 1 rfl sh24 rfl rfl rfl ?_
  refine JD.call fb140 rfl rfl (fun w hw => of3_c _ _ _ w (by omega) (by omega) (by omega)) ?_
  refine JD.build s23 rfl rfl ?_
  refine JD.nil ?_
  intro w4 H
  show JL _ _ _ _ _ _ _
  refine JL.storeB 0 H rfl rfl sh23 rfl rfl rfl rfl rfl ?_
  intro w5 H
  refine JL.nil ?_
  ((repeat refine Ex.normal_block ?_); refine Ex.next ?_)
  ((repeat refine JC.seq ?_); refine JC.ret ?_)
  (repeat (first | refine Ex.ret_then ?_ | refine Ex.ret_block ?_))
  refine Ex.ret1 rfl (.cell rfl sh23 (LdAt.of_block (H.get (i := 0) rfl).2 rfl)) ⟨rfl, H.below⟩
theorem gridMoves_w (g : Grid) (lv rv : Value) (r : List Run) (p : Push) (at_ : Int) (u t : Int × Int) (w : World) (hl : SlR w lv g.land) (hr : SlR w rv r) (hcr : capOK rv) (hat : 0 ≤ at_ ∧ at_ ≤ 4294967295)
    (hu : (0 ≤ u.1 ∧ u.1 ≤ 4294967295) ∧ (0 ≤ u.2 ∧ u.2 ≤ 4294967295)) (ht : (0 ≤ t.1 ∧ t.1 ≤ 4294967295) ∧ (0 ≤ t.2 ∧ t.2 ≤ 4294967295)) :
    Pur Try.prog 8 #[g.ev lv, rv, p.ev, .int .u32 at_, .agg ⟨[.int .u32 u.1, .int .u32 u.2]⟩, .agg ⟨[.int .u32 t.1, .int .u32 t.2]⟩] w (.bool true) := by
  obtain ⟨ra, rc, rfl⟩ := hr.len
  refine pur_J (args := [g.ev lv, .slice ra r.length rc, p.ev, .int .u32 at_, .agg ⟨[.int .u32 u.1, .int .u32 u.2]⟩, .agg ⟨[.int .u32 t.1, .int .u32 t.2]⟩]) Try.func8 rfl Try.ntmps8 rfl ?_
  have H := Own.start w
  ((repeat refine JC.seq ?_); refine JC.region ?_)
  refine JL.box H rfl rfl rfl ?_
  intro b6 w1 H
  refine JL.box H rfl rfl rfl ?_
  intro b8 w2 H
  refine JL.box H rfl rfl rfl ?_
  intro b10 w3 H
  refine JL.box H rfl rfl rfl ?_
  intro b11 w4 H
  refine JL.pure rfl rfl ?_
  refine JL.nil ?_
  ((repeat refine Ex.normal_block ?_); refine Ex.next ?_)
  ((repeat refine JC.seq ?_); refine JC.region ?_)
  refine JL.callP H fb40 rfl rfl (alive_c _) ?_
  intro w5 H _
  refine JL.pure rfl rfl ?_
  refine JL.nil ?_
  ((repeat refine Ex.normal_block ?_); refine Ex.next ?_)
  ((repeat refine JC.seq ?_); refine JC.region ?_)
  refine JL.loadB 3 H rfl sh52 rfl rfl rfl ?_
  refine JL.pure rfl rfl ?_
  refine JL.buildSlice H Try.underlying134 sh50 z50 rfl rfl rfl rfl rfl ?_
  intro b29 w6 H
  refine JL.callP H fb41 rfl rfl (great_c g lv _ 4096 [((.slice ra r.length rc), r)] _ (hl.grow H.below) (H.blkSl1 (j := 0) (ev := Prod.fst) rfl [((.slice ra r.length rc), r)] rfl (by simp)) (by
    have hB := H.below
    intro p hp
    simp only [List.mem_cons, List.not_mem_nil, or_false] at hp
    subst hp
    exact hr.grow hB)) ?_
  intro w7 H _
  refine JL.pure rfl rfl ?_
  refine JL.cases 31 rfl ?_ ?_
  · intro h31
    (try simp only [Bool.not_eq_true', Bool.not_eq_false', decide_eq_true_eq, decide_eq_false_iff_not] at h31)
    
    refine JL.pass rfl rfl rfl rfl ?_
    refine JL.pass rfl rfl rfl rfl ?_
    refine JL.pure rfl rfl ?_
    refine JL.nil ?_
    ((repeat refine Ex.normal_block ?_); refine Ex.next ?_)
    ((repeat refine JC.seq ?_); refine JC.cond rfl (fun _ => ?_) (fun h => by cases h))
    ((repeat refine JC.seq ?_); refine JC.region ?_)
    refine JL.pure rfl rfl ?_
    refine JL.pure rfl rfl ?_
    refine JL.nil ?_
    ((repeat refine Ex.normal_block ?_); refine Ex.next ?_)
    ((repeat refine JC.seq ?_); refine JC.ret ?_)
    (repeat (first | refine Ex.ret_then ?_ | refine Ex.ret_block ?_))
    refine Ex.ret1 rfl (.tmp rfl) ⟨?_, H.below⟩
    first
      | rfl
      | (rw [show (growR g r p).2.1 = true from (by unfold MovesC at hmain; exact hmain.1 (by omega))])
      | (have hb : (cellsR g r).1.length = 0 := by omega
         simp [hb])
  · intro h31
    (try simp only [Bool.not_eq_true', Bool.not_eq_false', decide_eq_true_eq, decide_eq_false_iff_not] at h31)
    have hsm := great_small (g := g) (n := 4096) (l := [r]) (by simpa using h31)
    have hs : g.ok = true → g.W * g.H ≤ 4096 := fun h => by have := hsm.1 h; omega
    have hcb := cellsR_bd g r
    have hce1 : (cellsR g r).2 = 0 ∨ (cellsR g r).1.length = 0 := by unfold cellsR; split <;> simp
    have hge1 : (growR g r p).2.2 = 0 ∨ (growR g r p).2.2 = 2 := by rcases growR_small hs r p with h | ⟨_, _, h, _⟩ <;> rw [h] <;> simp
    refine JL.want rfl rfl ?_
    refine JL.pure rfl rfl ?_
    refine JL.want rfl rfl ?_
    refine JL.pure rfl rfl ?_
    refine JL.pure rfl rfl ?_
    refine JL.nil ?_
    ((repeat refine Ex.normal_block ?_); refine Ex.next ?_)
    ((repeat refine JC.seq ?_); refine JC.cond rfl (fun h => by cases h) (fun _ => ?_))
    ((repeat refine JC.seq ?_); refine JC.skip ?_)
    ((repeat refine Ex.normal_block ?_); refine Ex.next ?_)
    ((repeat refine JC.seq ?_); refine JC.region ?_)
    refine JL.loadB 4 H rfl sh52 rfl rfl rfl ?_
    refine JL.pure rfl rfl ?_
    refine JL.loadB 3 H rfl sh54 rfl rfl rfl ?_
    refine JL.call fb43 rfl rfl (grow_c g lv (.slice ra r.length rc) r p _ (hl.grow H.below) (hr.grow H.below)) ?_
    rintro _ w8 ⟨gv, rfl, K⟩
    have H := H.join K
    refine ⟨_, rfl, ?_⟩
    refine JL.pure rfl rfl ?_
    refine JL.pure rfl rfl ?_
    refine JL.pure rfl rfl ?_
    refine JL.pure rfl rfl ?_
    refine JL.pure rfl rfl ?_
    refine JL.pure rfl rfl ?_
    refine JL.pure rfl rfl ?_
    refine JL.nil ?_
    ((repeat refine Ex.normal_block ?_); refine Ex.next ?_)
    ((repeat refine JC.seq ?_); refine JC.region ?_)
    refine JL.loadB 5 H rfl sh52 rfl rfl rfl ?_
    refine JL.pure rfl rfl ?_
    refine JL.call fb49 rfl rfl (cells49_c g lv (.slice ra r.length rc) r _ (hl.grow H.below) (hr.grow H.below)) ?_
    rintro _ w9 ⟨cv, rfl, K⟩
    obtain ⟨ca, cc, rfl⟩ := K.row_slice (j := 0) rfl
    have H := H.join K
    refine ⟨_, rfl, ?_⟩
    refine JL.pure rfl rfl ?_
    refine JL.pure rfl rfl ?_
    refine JL.pure rfl rfl ?_
    refine JL.pure rfl rfl ?_
    refine JL.pure rfl rfl ?_
    refine JL.nil ?_
    ((repeat refine Ex.normal_block ?_); refine Ex.next ?_)
    ((repeat refine JC.seq ?_); refine JC.region ?_)
    refine JL.pure rfl rfl ?_
    refine JL.pure rfl rfl ?_
    refine JL.pure rfl rfl ?_
    refine JL.cases 52 rfl ?_ ?_
    · intro h52
      (try simp only [Bool.not_eq_true', Bool.not_eq_false', decide_eq_true_eq, decide_eq_false_iff_not] at h52)
      refine JL.pass rfl rfl rfl rfl ?_
      refine JL.pass rfl rfl rfl rfl ?_
      refine JL.pure rfl rfl ?_
      refine JL.pure rfl rfl ?_
      refine JL.pass rfl rfl rfl rfl ?_
      refine JL.pass rfl rfl rfl rfl ?_
      refine JL.pass rfl rfl rfl rfl ?_
      refine JL.pure rfl rfl ?_
      refine JL.nil ?_
      ((repeat refine Ex.normal_block ?_); refine Ex.next ?_)
      ((repeat refine JC.seq ?_); refine JC.cond rfl (fun _ => ?_) (fun h => by cases h))
      ((repeat refine JC.seq ?_); refine JC.region ?_)
      refine JL.pure rfl rfl ?_
      refine JL.pure rfl rfl ?_
      refine JL.want rfl rfl ?_
      refine JL.pure rfl rfl ?_
      refine JL.want rfl rfl ?_
      refine JL.pure rfl rfl ?_
      refine JL.want rfl rfl ?_
      refine JL.pure rfl rfl ?_
      refine JL.cases 65 rfl ?_ ?_
      · intro h65
        (try simp only [Bool.not_eq_true', Bool.not_eq_false', decide_eq_true_eq, decide_eq_false_iff_not] at h65)
        refine JL.pass rfl rfl rfl rfl ?_
        refine JL.pass rfl rfl rfl rfl ?_
        refine JL.pass rfl rfl rfl rfl ?_
        refine JL.want rfl rfl ?_
        refine JL.pure rfl rfl ?_
        refine JL.pure rfl rfl ?_
        refine JL.pure rfl rfl ?_
        refine JL.nil ?_
        ((repeat refine Ex.normal_block ?_); refine Ex.next ?_)
        ((repeat refine JC.seq ?_); refine JC.ret ?_)
        (repeat (first | refine Ex.ret_then ?_ | refine Ex.ret_block ?_))
        refine Ex.ret1 rfl (.tmp rfl) ⟨?_, H.below⟩
        first
          | rfl
          | (rw [show (growR g r p).2.1 = true from (by unfold MovesC at hmain; exact hmain.1 (by omega))])
          | (have hb : (cellsR g r).1.length = 0 := by omega
             simp [hb])
      · intro h65
        (try simp only [Bool.not_eq_true', Bool.not_eq_false', decide_eq_true_eq, decide_eq_false_iff_not] at h65)
        refine JL.want rfl rfl ?_
        refine JL.pure rfl rfl ?_
        refine JL.want rfl rfl ?_
        refine JL.len rfl Try.underlying68 rfl ?_
        refine JL.want rfl rfl ?_
        refine JL.pure rfl rfl ?_
        refine JL.want rfl rfl ?_
        refine JL.pure rfl rfl ?_
        refine JL.pure rfl rfl ?_
        refine JL.pure rfl rfl ?_
        refine JL.nil ?_
        ((repeat refine Ex.normal_block ?_); refine Ex.next ?_)
        ((repeat refine JC.seq ?_); refine JC.ret ?_)
        (repeat (first | refine Ex.ret_then ?_ | refine Ex.ret_block ?_))
        refine Ex.ret1 rfl (.tmp rfl) ⟨?_, H.below⟩
        first
          | rfl
          | (rw [show (growR g r p).2.1 = true from (by unfold MovesC at hmain; exact hmain.1 (by omega))])
          | (have hb : (cellsR g r).1.length = 0 := by omega
             simp [hb])
    · intro h52
      (try simp only [Bool.not_eq_true', Bool.not_eq_false', decide_eq_true_eq, decide_eq_false_iff_not] at h52)
      refine JL.want rfl rfl ?_
      refine JL.pure rfl rfl ?_
      refine JL.want rfl rfl ?_
      refine JL.pure rfl rfl ?_
      refine JL.pure rfl rfl ?_
      refine JL.pure rfl rfl ?_
      refine JL.cases 56 rfl ?_ ?_
      · intro h56
        (try simp only [Bool.not_eq_true', Bool.not_eq_false', decide_eq_true_eq, decide_eq_false_iff_not] at h56)
        refine JL.pass rfl rfl rfl rfl ?_
        refine JL.pass rfl rfl rfl rfl ?_
        refine JL.pass rfl rfl rfl rfl ?_
        refine JL.pure rfl rfl ?_
        refine JL.nil ?_
        ((repeat refine Ex.normal_block ?_); refine Ex.next ?_)
        ((repeat refine JC.seq ?_); refine JC.cond rfl (fun _ => ?_) (fun h => by cases h))
        ((repeat refine JC.seq ?_); refine JC.region ?_)
        refine JL.pure rfl rfl ?_
        refine JL.pure rfl rfl ?_
        refine JL.want rfl rfl ?_
        refine JL.pure rfl rfl ?_
        refine JL.want rfl rfl ?_
        refine JL.pure rfl rfl ?_
        refine JL.want rfl rfl ?_
        refine JL.pure rfl rfl ?_
        refine JL.cases 65 rfl ?_ ?_
        · intro h65
          (try simp only [Bool.not_eq_true', Bool.not_eq_false', decide_eq_true_eq, decide_eq_false_iff_not] at h65)
          refine JL.pass rfl rfl rfl rfl ?_
          refine JL.pass rfl rfl rfl rfl ?_
          refine JL.pass rfl rfl rfl rfl ?_
          refine JL.want rfl rfl ?_
          refine JL.pure rfl rfl ?_
          refine JL.pure rfl rfl ?_
          refine JL.pure rfl rfl ?_
          refine JL.nil ?_
          ((repeat refine Ex.normal_block ?_); refine Ex.next ?_)
          ((repeat refine JC.seq ?_); refine JC.ret ?_)
          (repeat (first | refine Ex.ret_then ?_ | refine Ex.ret_block ?_))
          refine Ex.ret1 rfl (.tmp rfl) ⟨?_, H.below⟩
          first
            | rfl
            | (rw [show (growR g r p).2.1 = true from (by unfold MovesC at hmain; exact hmain.1 (by omega))])
            | (have hb : (cellsR g r).1.length = 0 := by omega
               simp [hb])
        · intro h65
          (try simp only [Bool.not_eq_true', Bool.not_eq_false', decide_eq_true_eq, decide_eq_false_iff_not] at h65)
          refine JL.want rfl rfl ?_
          refine JL.pure rfl rfl ?_
          refine JL.want rfl rfl ?_
          refine JL.len rfl Try.underlying68 rfl ?_
          refine JL.want rfl rfl ?_
          refine JL.pure rfl rfl ?_
          refine JL.want rfl rfl ?_
          refine JL.pure rfl rfl ?_
          refine JL.pure rfl rfl ?_
          refine JL.pure rfl rfl ?_
          refine JL.nil ?_
          ((repeat refine Ex.normal_block ?_); refine Ex.next ?_)
          ((repeat refine JC.seq ?_); refine JC.ret ?_)
          (repeat (first | refine Ex.ret_then ?_ | refine Ex.ret_block ?_))
          refine Ex.ret1 rfl (.tmp rfl) ⟨?_, H.below⟩
          first
            | rfl
            | (rw [show (growR g r p).2.1 = true from (by unfold MovesC at hmain; exact hmain.1 (by omega))])
            | (have hb : (cellsR g r).1.length = 0 := by omega
               simp [hb])
      · intro h56
        (try simp only [Bool.not_eq_true', Bool.not_eq_false', decide_eq_true_eq, decide_eq_false_iff_not] at h56)
        refine JL.want rfl rfl ?_
        refine JL.pure rfl rfl ?_
        refine JL.want rfl rfl ?_
        refine JL.len rfl Try.underlying68 rfl ?_
        refine JL.want rfl rfl ?_
        refine JL.pure rfl rfl ?_
        refine JL.pure rfl rfl ?_
        refine JL.nil ?_
        ((repeat refine Ex.normal_block ?_); refine Ex.next ?_)
        ((repeat refine JC.seq ?_); refine JC.cond rfl ?_ ?_)
        · intro h60
          (try simp only [Bool.not_eq_true', Bool.not_eq_false', decide_eq_true_eq, decide_eq_false_iff_not] at h60)
          
          ((repeat refine JC.seq ?_); refine JC.region ?_)
          refine JL.pure rfl rfl ?_
          refine JL.pure rfl rfl ?_
          refine JL.want rfl rfl ?_
          refine JL.pure rfl rfl ?_
          refine JL.want rfl rfl ?_
          refine JL.pure rfl rfl ?_
          refine JL.want rfl rfl ?_
          refine JL.pure rfl rfl ?_
          refine JL.cases 65 rfl ?_ ?_
          · intro h65
            (try simp only [Bool.not_eq_true', Bool.not_eq_false', decide_eq_true_eq, decide_eq_false_iff_not] at h65)
            refine JL.pass rfl rfl rfl rfl ?_
            refine JL.pass rfl rfl rfl rfl ?_
            refine JL.pass rfl rfl rfl rfl ?_
            refine JL.want rfl rfl ?_
            refine JL.pure rfl rfl ?_
            refine JL.pure rfl rfl ?_
            refine JL.pure rfl rfl ?_
            refine JL.nil ?_
            ((repeat refine Ex.normal_block ?_); refine Ex.next ?_)
            ((repeat refine JC.seq ?_); refine JC.ret ?_)
            (repeat (first | refine Ex.ret_then ?_ | refine Ex.ret_block ?_))
            refine Ex.ret1 rfl (.tmp rfl) ⟨?_, H.below⟩
            first
              | rfl
              | (rw [show (growR g r p).2.1 = true from (by unfold MovesC at hmain; exact hmain.1 (by omega))])
              | (have hb : (cellsR g r).1.length = 0 := by omega
                 simp [hb])
          · intro h65
            (try simp only [Bool.not_eq_true', Bool.not_eq_false', decide_eq_true_eq, decide_eq_false_iff_not] at h65)
            refine JL.want rfl rfl ?_
            refine JL.pure rfl rfl ?_
            refine JL.want rfl rfl ?_
            refine JL.len rfl Try.underlying68 rfl ?_
            refine JL.want rfl rfl ?_
            refine JL.pure rfl rfl ?_
            refine JL.want rfl rfl ?_
            refine JL.pure rfl rfl ?_
            refine JL.pure rfl rfl ?_
            refine JL.pure rfl rfl ?_
            refine JL.nil ?_
            ((repeat refine Ex.normal_block ?_); refine Ex.next ?_)
            ((repeat refine JC.seq ?_); refine JC.ret ?_)
            (repeat (first | refine Ex.ret_then ?_ | refine Ex.ret_block ?_))
            refine Ex.ret1 rfl (.tmp rfl) ⟨?_, H.below⟩
            first
              | rfl
              | (rw [show (growR g r p).2.1 = true from (by unfold MovesC at hmain; exact hmain.1 (by omega))])
              | (have hb : (cellsR g r).1.length = 0 := by omega
                 simp [hb])
        · intro h60
          (try simp only [Bool.not_eq_true', Bool.not_eq_false', decide_eq_true_eq, decide_eq_false_iff_not] at h60)
          have hge : (growR g r p).2.2 = 0 := by omega
          have hpos : 0 < (cellsR g r).1.length := by omega
          obtain ⟨j, hj⟩ : ∃ j : Nat, (j : Int) = at_ % (cellsR g r).1.length := ⟨(at_ % (cellsR g r).1.length).toNat, by have := emod_bd (u := at_) (S := (cellsR g r).1.length) (by omega); omega⟩
          have hjl : j < (cellsR g r).1.length := by have := emod_bd (u := at_) (S := (cellsR g r).1.length) (by omega); omega
          obtain ⟨c, hc⟩ : ∃ c, (cellsR g r).1[j]? = some c := ⟨_, List.getElem?_eq_getElem hjl⟩
          obtain ⟨hck, hcb2⟩ := cellsR_mem (List.mem_of_getElem? hc)
          obtain ⟨_, hpk⟩ : checkedB g [r] = true ∧ p.ok = true := by
            rcases growR_small hs r p with h | ⟨h1, h2, _⟩
            · rw [h] at hge; cases hge
            · exact ⟨h1, h2⟩
          obtain ⟨hgok, hall⟩ := checkedB_b hck
          obtain ⟨hgW, hgH, hgS, _⟩ := Grid.ok_b hgok
          have hcG := canon_inG (canon_of_right (hall r (by simp))) hcb2
          unfold inG at hcG
          have hpb : (-16777216 ≤ p.Low.X ∧ p.Low.X ≤ p.High.X) ∧ (-16777216 ≤ p.Low.Y ∧ p.Low.Y ≤ p.High.Y) ∧ max p.High.X p.High.Y ≤ 16777216 := by
            have := hpk
            unfold Push.ok at this
            simpa [and_assoc] using this
          have hX := pick_bd (u := u.1) hgS hcG.1 hgW.2 hu.1.1
          have hY := pick_bd (u := u.2) hgS hcG.2 hgH.2 hu.2.1
          have hmx := of_bd (lo := p.Low.X) (hi := p.High.X) (u := t.1) hpb.1.2
          have hmy := of_bd (lo := p.Low.Y) (hi := p.High.Y) (u := t.2) hpb.2.1.2
          have mW := mul_bd (M := 0) (show 0 ≤ g.W by omega) hgW.2 (show 0 ≤ g.S by omega) hgS.2
          have mH := mul_bd (M := 0) (show 0 ≤ g.H by omega) hgH.2 (show 0 ≤ g.S by omega) hgS.2
          obtain ⟨s, hs1⟩ : ∃ s, s = pickR g c u := ⟨_, rfl⟩
          obtain ⟨m, hm1⟩ : ∃ m, m = moveR p t := ⟨_, rfl⟩
          have hpc : ∀ w, Pur Try.prog 50 #[g.ev lv, c.ev, .agg ⟨[.int .u32 u.1, .int .u32 u.2]⟩] w s.ev := fun w => by rw [hs1]; exact pick_c g lv c u w hgS (by omega) (by omega) hu.1 hu.2
          have hmc : ∀ w, Pur Try.prog 51 #[p.ev, .agg ⟨[.int .u32 t.1, .int .u32 t.2]⟩] w m.ev := fun w => by rw [hm1]; exact move_c p t w hpk ht.1 ht.2
          have hmain := moves_law hs hge hcb2 (X := s.X) (Y := s.Y) (mx := m.X) (my := m.Y) (by rw [hs1]; exact ⟨hX.1, hX.2.1⟩) (by rw [hs1]; exact ⟨hY.1, hY.2.1⟩) (by rw [hm1]; exact hmx) (by rw [hm1]; exact hmy)
          have hsb : (0 ≤ s.X ∧ s.X ≤ 13000000) ∧ 0 ≤ s.Y ∧ s.Y ≤ 13000000 := by rw [hs1]; unfold pickR; simp only; omega
          have hmb : (-16777216 ≤ m.X ∧ m.X ≤ 16777216) ∧ -16777216 ≤ m.Y ∧ m.Y ≤ 16777216 := by rw [hm1]; unfold moveR ofR; simp only; omega
          clear hs1 hm1 hX hY hmx hmy
          ((repeat refine JC.seq ?_); refine JC.skip ?_)
          ((repeat refine Ex.normal_block ?_); refine Ex.next ?_)
          ((repeat refine JC.seq ?_); refine JC.region ?_)
          refine JL.pure rfl rfl ?_
          refine JL.pure rfl rfl ?_
          refine JL.convI rfl Try.underlying24 Try.underlying3 (by unfold In64; omega) rfl ?_
          refine JL.pure rfl rfl ?_
          refine JL.len rfl Try.underlying68 rfl ?_
          first
            | refine JL.remP rfl rfl (by omega) (by omega) rfl ?_
            | refine JL.rem rfl rfl (by omega) rfl ?_
          have hsl : Sl Cell.ev (true, 2) _ (.slice ca _ cc) (cellsR g r).1 := H.rowSl (j := 0) (enc := Cell.cs) (fun _ => rfl) rfl (by omega)
          obtain ⟨_, a9, c9, he9, ha9⟩ := id hsl
          cases he9
          obtain ⟨β, off, rfl, hβ, hc9⟩ := ha9.resolve_left (by intro h; rw [h] at hpos; simp at hpos)
          refine JL.indexS j rfl rfl Try.underlying68 sh62 hj.symm hjl rfl ?_
          refine JL.load rfl sh62 (hc9 j c hc) rfl ?_
          refine JL.alloc H z62 rfl ?_
          intro b19 w10 H
          refine JL.storeB 0 H rfl rfl sh62 rfl rfl rfl rfl rfl ?_
          intro w11 H
          refine JL.nil ?_
          ((repeat refine Ex.normal_block ?_); refine Ex.next ?_)
          ((repeat refine JC.seq ?_); refine JC.region ?_)
          refine JL.loadB 7 H rfl sh52 rfl rfl rfl ?_
          refine JL.loadB 0 H rfl sh62 rfl rfl rfl ?_
          refine JL.loadB 5 H rfl sh25 rfl rfl rfl ?_
          refine JL.callP H fb50 rfl rfl (hpc _) ?_
          intro w12 H _
          refine JL.alloc H z23 rfl ?_
          intro b20 w13 H
          refine JL.storeB 0 H rfl rfl sh23 rfl rfl rfl rfl rfl ?_
          intro w14 H
          refine JL.nil ?_
          ((repeat refine Ex.normal_block ?_); refine Ex.next ?_)
          ((repeat refine JC.seq ?_); refine JC.region ?_)
          refine JL.loadB 7 H rfl sh54 rfl rfl rfl ?_
          refine JL.loadB 5 H rfl sh25 rfl rfl rfl ?_
          refine JL.callP H fb51 rfl rfl (hmc _) ?_
          intro w15 H _
          refine JL.alloc H z23 rfl ?_
          intro b21 w16 H
          refine JL.storeB 0 H rfl rfl sh23 rfl rfl rfl rfl rfl ?_
          intro w17 H
          refine JL.nil ?_
          ((repeat refine Ex.normal_block ?_); refine Ex.next ?_)
          ((repeat refine JC.seq ?_); refine JC.region ?_)
          refine JL.fieldAddr rfl Try.underlying23 rfl sh3 rfl ?_
          refine JL.loadB 1 H rfl sh3 rfl rfl rfl ?_
          refine JL.fieldAddr rfl Try.underlying23 rfl sh3 rfl ?_
          refine JL.loadB 0 H rfl sh3 rfl rfl rfl ?_
          refine JL.arith rfl (by unfold In64; omega) rfl ?_
          refine JL.fieldAddr rfl Try.underlying23 rfl sh3 rfl ?_
          refine JL.loadB 1 H rfl sh3 rfl rfl rfl ?_
          refine JL.fieldAddr rfl Try.underlying23 rfl sh3 rfl ?_
          refine JL.loadB 0 H rfl sh3 rfl rfl rfl ?_
          refine JL.arith rfl (by unfold In64; omega) rfl ?_
          refine JL.build s23 rfl rfl ?_
          refine JL.storeB 1 H rfl rfl sh23 rfl rfl rfl rfl rfl ?_
          intro w18 H
          refine JL.nil ?_
          ((repeat refine Ex.normal_block ?_); refine Ex.next ?_)
          ((repeat refine JC.seq ?_); refine JC.region ?_)
          refine JL.fieldAddr rfl Try.underlying23 rfl sh3 rfl ?_
          refine JL.loadB 1 H rfl sh3 rfl rfl rfl ?_
          refine JL.pure rfl rfl ?_
          refine JL.pure rfl rfl ?_
          refine JL.cases 100 rfl ?_ ?_
          · intro h100
            (try simp only [Bool.not_eq_true', Bool.not_eq_false', decide_eq_true_eq, decide_eq_false_iff_not] at h100)
            refine JL.pass rfl rfl rfl rfl ?_
            refine JL.pass rfl rfl rfl rfl ?_
            refine JL.pass rfl rfl rfl rfl ?_
            refine JL.pure rfl rfl ?_
            refine JL.pure rfl rfl ?_
            refine JL.pass rfl rfl rfl rfl ?_
            refine JL.pass rfl rfl rfl rfl ?_
            refine JL.pass rfl rfl rfl rfl ?_
            refine JL.pass rfl rfl rfl rfl ?_
            refine JL.pass rfl rfl rfl rfl ?_
            refine JL.pass rfl rfl rfl rfl ?_
            refine JL.pass rfl rfl rfl rfl ?_
            refine JL.pass rfl rfl rfl rfl ?_
            refine JL.pure rfl rfl ?_
            refine JL.pure rfl rfl ?_
            refine JL.pass rfl rfl rfl rfl ?_
            refine JL.pass rfl rfl rfl rfl ?_
            refine JL.pass rfl rfl rfl rfl ?_
            refine JL.pass rfl rfl rfl rfl ?_
            refine JL.pass rfl rfl rfl rfl ?_
            refine JL.pass rfl rfl rfl rfl ?_
            refine JL.pass rfl rfl rfl rfl ?_
            refine JL.pass rfl rfl rfl rfl ?_
            refine JL.pure rfl rfl ?_
            refine JL.nil ?_
            ((repeat refine Ex.normal_block ?_); refine Ex.next ?_)
            ((repeat refine JC.seq ?_); refine JC.cond rfl (fun _ => ?_) (fun h => by cases h))
            ((repeat refine JC.seq ?_); refine JC.region ?_)
            refine JL.pure rfl rfl ?_
            refine JL.pure rfl rfl ?_
            refine JL.want rfl rfl ?_
            refine JL.pure rfl rfl ?_
            refine JL.pure rfl rfl ?_
            refine JL.pure rfl rfl ?_
            refine JL.nil ?_
            ((repeat refine Ex.normal_block ?_); refine Ex.next ?_)
            ((repeat refine JC.seq ?_); refine JC.ret ?_)
            (repeat (first | refine Ex.ret_then ?_ | refine Ex.ret_block ?_))
            refine Ex.ret1 rfl (.tmp rfl) ⟨?_, H.below⟩
            first
              | rfl
              | (rw [show (growR g r p).2.1 = true from (by unfold MovesC at hmain; exact hmain.1 (by omega))])
              | (have hb : (cellsR g r).1.length = 0 := by omega
                 simp [hb])
          · intro h100
            (try simp only [Bool.not_eq_true', Bool.not_eq_false', decide_eq_true_eq, decide_eq_false_iff_not] at h100)
            refine JL.want rfl rfl ?_
            refine JL.fieldAddr rfl Try.underlying23 rfl sh3 rfl ?_
            refine JL.want rfl rfl ?_
            refine JL.loadB 1 H rfl sh3 rfl rfl rfl ?_
            refine JL.want rfl rfl ?_
            refine JL.pure rfl rfl ?_
            refine JL.pure rfl rfl ?_
            refine JL.pure rfl rfl ?_
            refine JL.cases 105 rfl ?_ ?_
            · intro h105
              (try simp only [Bool.not_eq_true', Bool.not_eq_false', decide_eq_true_eq, decide_eq_false_iff_not] at h105)
              refine JL.pass rfl rfl rfl rfl ?_
              refine JL.pass rfl rfl rfl rfl ?_
              refine JL.pass rfl rfl rfl rfl ?_
              refine JL.pass rfl rfl rfl rfl ?_
              refine JL.pass rfl rfl rfl rfl ?_
              refine JL.pass rfl rfl rfl rfl ?_
              refine JL.pass rfl rfl rfl rfl ?_
              refine JL.pass rfl rfl rfl rfl ?_
              refine JL.pure rfl rfl ?_
              refine JL.pure rfl rfl ?_
              refine JL.pass rfl rfl rfl rfl ?_
              refine JL.pass rfl rfl rfl rfl ?_
              refine JL.pass rfl rfl rfl rfl ?_
              refine JL.pass rfl rfl rfl rfl ?_
              refine JL.pass rfl rfl rfl rfl ?_
              refine JL.pass rfl rfl rfl rfl ?_
              refine JL.pass rfl rfl rfl rfl ?_
              refine JL.pass rfl rfl rfl rfl ?_
              refine JL.pure rfl rfl ?_
              refine JL.nil ?_
              ((repeat refine Ex.normal_block ?_); refine Ex.next ?_)
              ((repeat refine JC.seq ?_); refine JC.cond rfl (fun _ => ?_) (fun h => by cases h))
              ((repeat refine JC.seq ?_); refine JC.region ?_)
              refine JL.pure rfl rfl ?_
              refine JL.pure rfl rfl ?_
              refine JL.want rfl rfl ?_
              refine JL.pure rfl rfl ?_
              refine JL.pure rfl rfl ?_
              refine JL.pure rfl rfl ?_
              refine JL.nil ?_
              ((repeat refine Ex.normal_block ?_); refine Ex.next ?_)
              ((repeat refine JC.seq ?_); refine JC.ret ?_)
              (repeat (first | refine Ex.ret_then ?_ | refine Ex.ret_block ?_))
              refine Ex.ret1 rfl (.tmp rfl) ⟨?_, H.below⟩
              first
                | rfl
                | (rw [show (growR g r p).2.1 = true from (by unfold MovesC at hmain; exact hmain.1 (by omega))])
                | (have hb : (cellsR g r).1.length = 0 := by omega
                   simp [hb])
            · intro h105
              (try simp only [Bool.not_eq_true', Bool.not_eq_false', decide_eq_true_eq, decide_eq_false_iff_not] at h105)
              refine JL.want rfl rfl ?_
              refine JL.fieldAddr rfl Try.underlying23 rfl sh3 rfl ?_
              refine JL.want rfl rfl ?_
              refine JL.loadB 1 H rfl sh3 rfl rfl rfl ?_
              refine JL.want rfl rfl ?_
              refine JL.fieldAddr rfl Try.underlying52 rfl sh3 rfl ?_
              refine JL.want rfl rfl ?_
              refine JL.loadB 9 H rfl sh3 rfl rfl rfl ?_
              refine JL.want rfl rfl ?_
              refine JL.fieldAddr rfl Try.underlying52 rfl sh3 rfl ?_
              refine JL.want rfl rfl ?_
              refine JL.loadB 9 H rfl sh3 rfl rfl rfl ?_
              refine JL.want rfl rfl ?_
              refine JL.arith rfl (by unfold In64; omega) rfl ?_
              refine JL.want rfl rfl ?_
              refine JL.pure rfl rfl ?_
              refine JL.pure rfl rfl ?_
              refine JL.pure rfl rfl ?_
              refine JL.cases 115 rfl ?_ ?_
              · intro h115
                (try simp only [Bool.not_eq_true', Bool.not_eq_false', decide_eq_true_eq, decide_eq_false_iff_not] at h115)
                refine JL.pass rfl rfl rfl rfl ?_
                refine JL.pass rfl rfl rfl rfl ?_
                refine JL.pass rfl rfl rfl rfl ?_
                refine JL.pass rfl rfl rfl rfl ?_
                refine JL.pass rfl rfl rfl rfl ?_
                refine JL.pass rfl rfl rfl rfl ?_
                refine JL.pass rfl rfl rfl rfl ?_
                refine JL.pass rfl rfl rfl rfl ?_
                refine JL.pure rfl rfl ?_
                refine JL.nil ?_
                ((repeat refine Ex.normal_block ?_); refine Ex.next ?_)
                ((repeat refine JC.seq ?_); refine JC.cond rfl (fun _ => ?_) (fun h => by cases h))
                ((repeat refine JC.seq ?_); refine JC.region ?_)
                refine JL.pure rfl rfl ?_
                refine JL.pure rfl rfl ?_
                refine JL.want rfl rfl ?_
                refine JL.pure rfl rfl ?_
                refine JL.pure rfl rfl ?_
                refine JL.pure rfl rfl ?_
                refine JL.nil ?_
                ((repeat refine Ex.normal_block ?_); refine Ex.next ?_)
                ((repeat refine JC.seq ?_); refine JC.ret ?_)
                (repeat (first | refine Ex.ret_then ?_ | refine Ex.ret_block ?_))
                refine Ex.ret1 rfl (.tmp rfl) ⟨?_, H.below⟩
                first
                  | rfl
                  | (rw [show (growR g r p).2.1 = true from (by unfold MovesC at hmain; exact hmain.1 (by omega))])
                  | (have hb : (cellsR g r).1.length = 0 := by omega
                     simp [hb])
              · intro h115
                (try simp only [Bool.not_eq_true', Bool.not_eq_false', decide_eq_true_eq, decide_eq_false_iff_not] at h115)
                refine JL.want rfl rfl ?_
                refine JL.fieldAddr rfl Try.underlying23 rfl sh3 rfl ?_
                refine JL.want rfl rfl ?_
                refine JL.loadB 1 H rfl sh3 rfl rfl rfl ?_
                refine JL.want rfl rfl ?_
                refine JL.fieldAddr rfl Try.underlying52 rfl sh3 rfl ?_
                refine JL.want rfl rfl ?_
                refine JL.loadB 9 H rfl sh3 rfl rfl rfl ?_
                refine JL.want rfl rfl ?_
                refine JL.fieldAddr rfl Try.underlying52 rfl sh3 rfl ?_
                refine JL.want rfl rfl ?_
                refine JL.loadB 9 H rfl sh3 rfl rfl rfl ?_
                refine JL.want rfl rfl ?_
                refine JL.arith rfl (by unfold In64; omega) rfl ?_
                refine JL.want rfl rfl ?_
                refine JL.pure rfl rfl ?_
                refine JL.pure rfl rfl ?_
                refine JL.nil ?_
                ((repeat refine Ex.normal_block ?_); refine Ex.next ?_)
                ((repeat refine JC.seq ?_); refine JC.cond rfl ?_ ?_)
                · intro h124
                  (try simp only [Bool.not_eq_true', Bool.not_eq_false', decide_eq_true_eq, decide_eq_false_iff_not] at h124)
                  
                  ((repeat refine JC.seq ?_); refine JC.region ?_)
                  refine JL.pure rfl rfl ?_
                  refine JL.pure rfl rfl ?_
                  refine JL.want rfl rfl ?_
                  refine JL.pure rfl rfl ?_
                  refine JL.pure rfl rfl ?_
                  refine JL.pure rfl rfl ?_
                  refine JL.nil ?_
                  ((repeat refine Ex.normal_block ?_); refine Ex.next ?_)
                  ((repeat refine JC.seq ?_); refine JC.ret ?_)
                  (repeat (first | refine Ex.ret_then ?_ | refine Ex.ret_block ?_))
                  refine Ex.ret1 rfl (.tmp rfl) ⟨?_, H.below⟩
                  first
                    | rfl
                    | (rw [show (growR g r p).2.1 = true from (by unfold MovesC at hmain; exact hmain.1 (by omega))])
                    | (have hb : (cellsR g r).1.length = 0 := by omega
                       simp [hb])
                · intro h124
                  (try simp only [Bool.not_eq_true', Bool.not_eq_false', decide_eq_true_eq, decide_eq_false_iff_not] at h124)
                  have hin : ¬(s.X + m.X < 0 ∨ s.Y + m.Y < 0 ∨ s.X + m.X ≥ g.W * g.S ∨ s.Y + m.Y ≥ g.H * g.S) := by omega
                  unfold MovesC at hmain
                  obtain ⟨dd, hd1, hd2, hd3, hd4, hd5⟩ := hmain.2 hin
                  clear hmain
                  ((repeat refine JC.seq ?_); refine JC.skip ?_)
                  ((repeat refine Ex.normal_block ?_); refine Ex.next ?_)
                  ((repeat refine JC.seq ?_); refine JC.region ?_)
                  refine JL.loadB 9 H rfl sh52 rfl rfl rfl ?_
                  refine JL.loadB 1 H rfl sh23 rfl rfl rfl ?_
                  refine JL.callP H fb52 rfl rfl (v := .tuple #[dd.ev, .int .i64 0]) (by have := cellOf_c g lv ⟨s.X + m.X, s.Y + m.Y⟩ _ (hl.grow H.below); rw [hd1] at this; exact this) ?_
                  intro w19 H _
                  refine JL.pure rfl rfl ?_
                  refine JL.pure rfl rfl ?_
                  refine JL.pure rfl rfl ?_
                  refine JL.alloc H z62 rfl ?_
                  intro b22 w20 H
                  refine JL.storeB 0 H rfl rfl sh62 rfl rfl rfl rfl rfl ?_
                  intro w21 H
                  refine JL.pure rfl rfl ?_
                  refine JL.nil ?_
                  ((repeat refine Ex.normal_block ?_); refine Ex.next ?_)
                  ((repeat refine JC.seq ?_); refine JC.drawS H mixed ?_)
                  intro w22 H
                  refine DR.any 0 7 H (by kernel_rfl) ?_
                  refine JD.loadB 10 rfl sh52 rfl rfl rfl ?_
                  refine JD.fieldAddr rfl Try.underlying62 rfl sh3 rfl ?_
                  refine JD.loadB 0 rfl sh3 rfl rfl rfl ?_
                  refine JD.fieldAddr rfl Try.underlying62 rfl sh3 rfl ?_
                  refine JD.loadB 0 rfl sh3 rfl rfl rfl ?_
                  refine JD.callN (fun v => runRow v (oneR dd.X dd.Y)) fb45 rfl rfl (fun w1 hw => one_c _ _ w1) ?_
                  refine JD.loadB 9 rfl sh54 rfl rfl rfl ?_
                  refine JD.nil ?_
                  intro w23 v141 H
                  simp only [Option.isSome_none, Option.isSome_some, cond_false, cond_true] at H
                  show DR _ _ _ _ _ _ _
                  refine DR.op rfl (by kernel_rfl) ?_
                  refine JL.call fb46 rfl rfl (back_c g lv v141 (oneR dd.X dd.Y) p _ (hl.grow H.below) (runSl H (j := 0) rfl (by simp [oneR]))) ?_
                  rintro _ w24 ⟨bv, rfl, K⟩
                  have H := H.join K
                  refine ⟨_, rfl, ?_⟩
                  refine DR.next ?_
                  refine DR.any 8 13 H (by kernel_rfl) ?_
                  refine JD.pure rfl rfl ?_
                  refine JD.pure rfl rfl ?_
                  refine JD.pure rfl rfl ?_
                  refine JD.pure rfl rfl ?_
                  refine JD.pure rfl rfl ?_
                  refine JD.nil ?_
                  intro w25 H
                  show DR _ _ _ _ _ _ _
                  refine DR.done rfl ?_
                  ((repeat refine Ex.normal_block ?_); refine Ex.next ?_)
                  ((repeat refine JC.seq ?_); refine JC.region ?_)
                  refine JL.pure rfl rfl ?_
                  refine JL.pure rfl rfl ?_
                  refine JL.want rfl rfl ?_
                  refine JL.pure rfl rfl ?_
                  refine JL.want rfl rfl ?_
                  refine JL.pure rfl rfl ?_
                  refine JL.re 149 rfl (v' := .bool true) rfl ?_
                  refine JL.pure rfl rfl ?_
                  refine JL.pure rfl rfl ?_
                  refine JL.want rfl rfl ?_
                  refine JL.pure rfl rfl ?_
                  refine JL.want rfl rfl ?_
                  refine JL.loadB 2 H rfl sh62 rfl rfl rfl ?_
                  refine JL.want rfl rfl ?_
                  refine JL.callP H fb48 rfl rfl (v := .bool true) (by have := has_c _ (growR g r p).1 dd _ (runSl H (j := 7) rfl (by have := growR_len g r p; omega)); rw [hd2] at this; exact this) ?_
                  intro w26 H _
                  refine JL.pure rfl rfl ?_
                  refine JL.pure rfl rfl ?_
                  refine JL.want rfl rfl ?_
                  refine JL.pure rfl rfl ?_
                  refine JL.want rfl rfl ?_
                  refine JL.pure rfl rfl ?_
                  refine JL.re 158 rfl (v' := .bool true) (by rw [hd3]; rfl) ?_
                  refine JL.pure rfl rfl ?_
                  refine JL.pure rfl rfl ?_
                  refine JL.want rfl rfl ?_
                  refine JL.pure rfl rfl ?_
                  refine JL.want rfl rfl ?_
                  refine JL.loadB 5 H rfl sh62 rfl rfl rfl ?_
                  refine JL.want rfl rfl ?_
                  refine JL.callP H fb48 rfl rfl (v := .bool true) (by have := has_c _ (backR g (oneR dd.X dd.Y) p).1 c _ (runSl H (j := 0) rfl (by have := backR_len g (oneR dd.X dd.Y) p; omega)); rw [hd4] at this; exact this) ?_
                  intro w27 H _
                  refine JL.pure rfl rfl ?_
                  refine JL.pure rfl rfl ?_
                  refine JL.nil ?_
                  ((repeat refine Ex.normal_block ?_); refine Ex.next ?_)
                  ((repeat refine JC.seq ?_); refine JC.ret ?_)
                  (repeat (first | refine Ex.ret_then ?_ | refine Ex.ret_block ?_))
                  refine Ex.ret1 rfl (.tmp rfl) ⟨?_, H.below⟩
                  first
                    | rfl
                    | (rw [show (growR g r p).2.1 = true from (by unfold MovesC at hmain; exact hmain.1 (by omega))])
                    | (have hb : (cellsR g r).1.length = 0 := by omega
                       simp [hb])
end Go.J
