/-
  Lemmas for the statements of this seat; no statement is proved here. No condition.
-/
import Derived.Test.YtfbmgmdjaoackaaG12
namespace Go.J
open Go.RowKit Go.Proofs
set_option maxRecDepth 8000
set_option linter.unusedSimpArgs false
set_option linter.unusedVariables false
theorem rightB_len {W H : Int} {rs : List Run} (h : rightB W H rs = true) : rs.length ≤ 8192 := by
  unfold rightB at h; simp at h; exact h.2
theorem checkedB_b {g : Grid} {l : List (List Run)} (h : checkedB g l = true) : g.ok = true ∧ ∀ r ∈ l, rightB g.W g.H r = true := by
  unfold checkedB at h; simpa using h
theorem runSl {w0 w : World} {L : List HP} (H : Own w0 w L) {j : Nat} {v : Value} {l : List Run} (hj : L[j]? = some (runRow v l)) (hn : l.length ≤ 9223372036854775807) : SlR w v l := H.rowSl (enc := Run.cs) (fun _ => rfl) hj hn
theorem regRes_len (T : Tab) : (regRes T).1.length ≤ 8192 := by
  unfold regRes; split <;> simp_all
def withoutR (g : Grid) (a b : List Run) : List Run × Int := if checkedB g [a, b] then regRes (bothT g.W g.H tab0 a (othersR g b)) else ([], 2)
theorem bothT_good (g : Grid) (a b : List Run) : Tab.good g.W (a.length + b.length) (bothT g.W g.H tab0 a b) := by
  have := both_good g.H (a.length + b.length) 0 tab0 a b (tab0_good g.W)
  rw [Nat.zero_add] at this
  exact this
theorem without_c (g : Grid) (lv av bv : Value) (a b : List Run) (w : World) (hl : SlR w lv g.land) (ha : SlR w av a) (hb : SlR w bv b) (hca : capOK av) (hcb : capOK bv) :
    Calls Try.prog 57 #[g.ev lv, av, bv] w (fun e w' => ResR w w' [] (withoutR g a b) e) := by
  obtain ⟨aa, ac, rfl⟩ := ha.len
  obtain ⟨ba, bc, rfl⟩ := hb.len
  refine calls_J (args := [g.ev lv, .slice aa a.length ac, .slice ba b.length bc]) Try.func57 rfl Try.ntmps57 rfl ?_
  have H := Own.start w
  ((repeat refine JC.seq ?_); refine JC.region ?_)
  refine JL.box H rfl rfl rfl ?_
  intro b3 w1 H
  refine JL.pure rfl rfl ?_
  refine JL.pure rfl rfl ?_
  refine JL.nil ?_
  ((repeat refine Ex.normal_block ?_); refine Ex.next ?_)
  ((repeat refine JC.seq ?_); refine JC.region ?_)
  refine JL.loadB 0 H rfl sh52 rfl rfl rfl ?_
  refine JL.pure rfl rfl ?_
  refine JL.pure rfl rfl ?_
  refine JL.buildSlice H Try.underlying134 sh50 z50 rfl rfl rfl rfl rfl ?_
  intro b13 w2 H
  refine JL.callP H fb129 rfl rfl (checked_c g lv _ [(.slice aa a.length ac, a), (.slice ba b.length bc, b)] _ (hl.grow H.below) (H.blkSl1 (j := 0) (ev := Prod.fst) rfl [(.slice aa a.length ac, a), (.slice ba b.length bc, b)] rfl (by simp)) (by
    have hB := H.below
    intro p hp
    simp only [List.mem_cons, List.not_mem_nil, or_false] at hp
    rcases hp with rfl | rfl
    · exact ha.grow hB
    · exact hb.grow hB)) ?_
  intro w3 H _
  refine JL.pure rfl rfl ?_
  refine JL.nil ?_
  ((repeat refine Ex.normal_block ?_); refine Ex.next ?_)
  ((repeat refine JC.seq ?_); refine JC.region ?_)
  refine JL.pure rfl rfl ?_
  refine JL.pure rfl rfl ?_
  refine JL.nil ?_
  ((repeat refine Ex.normal_block ?_); refine Ex.next ?_)
  ((repeat refine JC.seq ?_); refine JC.cond rfl ?_ ?_)
  · intro h16
    (try simp only [Bool.not_eq_true', Bool.not_eq_false', decide_eq_true_eq, decide_eq_false_iff_not] at h16)
    have hok : checkedB g [a, b] = false := by
      cases hc : checkedB g [a, b] with
      | false => rfl
      | true => exfalso; simp [hc] at h16
    ((repeat refine JC.seq ?_); refine JC.region ?_)
    refine JL.pure rfl rfl ?_
    refine JL.pure rfl rfl ?_
    refine JL.pure rfl rfl ?_
    refine JL.nil ?_
    ((repeat refine Ex.normal_block ?_); refine Ex.next ?_)
    ((repeat refine JC.seq ?_); refine JC.ret ?_)
    (repeat (first | refine Ex.ret_then ?_ | refine Ex.ret_block ?_))
    refine Ex.ret2 rfl (.tmp rfl) (.tmp rfl) ?_
    unfold withoutR ResR; rw [hok]
    exact ⟨.slice none 0 0, by simp [hok], (((H.drop 0).drop 0).nilRow 140 3)⟩
  · intro h16
    (try simp only [Bool.not_eq_true', Bool.not_eq_false', decide_eq_true_eq, decide_eq_false_iff_not] at h16)
    have hok : checkedB g [a, b] = true := by
      cases hc : checkedB g [a, b] with
      | true => rfl
      | false => exfalso; simp [hc] at h16
    obtain ⟨hgok, hall⟩ := checkedB_b hok
    obtain ⟨hgW, hgH, hgS, hgl⟩ := Grid.ok_b hgok
    have hal := rightB_len (hall a (by simp))
    have hbl := rightB_len (hall b (by simp))
    have hol : (othersR g b).length ≤ b.length + 256 := by
      have := othN_len g.W b g.H.toNat
      unfold othersR
      omega
    ((repeat refine JC.seq ?_); refine JC.skip ?_)
    ((repeat refine Ex.normal_block ?_); refine Ex.next ?_)
    ((repeat refine JC.seq ?_); refine JC.region ?_)
    refine JL.buildA Try.underlying195 sh193 za195 rfl rfl ?_
    refine JL.box H rfl rfl rfl ?_
    intro b19 w4 H
    have H := H.newT
    refine JL.pure rfl rfl ?_
    refine JL.nil ?_
    ((repeat refine Ex.normal_block ?_); refine Ex.next ?_)
    ((repeat refine JC.seq ?_); refine JC.draw 6 H mixed (by kernel_rfl) rfl ?_)
    refine JD.pure rfl rfl ?_
    refine JD.loadB 2 rfl sh52 rfl rfl rfl ?_
    refine JD.pure rfl rfl ?_
    refine JD.loadB 2 rfl sh52 rfl rfl rfl ?_
    refine JD.pure rfl rfl ?_
    refine JD.callN (fun v => runRow v (othersR g b)) fb147 rfl rfl (fun w1 hw => others_c g lv _ b w1 (hb.grow hw.below) hcb hgH (by omega) (fun _ _ => trivial)) ?_
    refine JD.nil ?_
    intro w5 v25 H
    simp only [Option.isSome_none, Option.isSome_some, cond_false, cond_true] at H
    show JL _ _ _ _ _ _ _
    have H := H.front 1 rfl
    refine JL.call fb130 rfl rfl (both_c (k := 0) H g lv _ v25 a (othersR g b) hgW hgH (fun w' T' h => ha.grow h.below) (fun w' T' h => runSl h (j := 1) rfl (by omega)) hca (H.rowCap (j := 1) rfl) (tab0_good _) (by omega)) ?_
    rintro _ w6 ⟨rfl, H⟩
    refine ⟨_, rfl, ?_⟩
    refine JL.nil ?_
    ((repeat refine Ex.normal_block ?_); refine Ex.next ?_)
    ((repeat refine JC.seq ?_); refine JC.region ?_)
    refine JL.pure rfl rfl ?_
    refine JL.call fb131 rfl rfl (region_c2 H (bothT_good g a (othersR g b)) (by omega) hgW.2) ?_
    rintro _ w7 ⟨rv, rfl, H⟩
    refine ⟨_, rfl, ?_⟩
    refine JL.pure rfl rfl ?_
    refine JL.pure rfl rfl ?_
    refine JL.pure rfl rfl ?_
    refine JL.pure rfl rfl ?_
    refine JL.nil ?_
    ((repeat refine Ex.normal_block ?_); refine Ex.next ?_)
    ((repeat refine JC.seq ?_); refine JC.ret ?_)
    (repeat (first | refine Ex.ret_then ?_ | refine Ex.ret_block ?_))
    refine Ex.ret2 rfl (.tmp rfl) (.tmp rfl) ?_
    unfold withoutR ResR; rw [hok]
    exact ⟨_, rfl, ((H.drop 1).drop 1).drop 1⟩
def seaR (g : Grid) : List Run × Int := if (allR g).2 = 0 then withoutR g (allR g).1 g.land else ([], (allR g).2)
theorem allR_len (g : Grid) : (allR g).1.length ≤ 8192 := by
  unfold allR; split
  · exact regRes_len _
  · simp
theorem sea_c (g : Grid) (lv : Value) (w : World) (hl : SlR w lv g.land) (hcl : capOK lv) : Calls Try.prog 98 #[g.ev lv] w (fun e w' => ResR w w' [] (seaR g) e) := by
  refine calls_J (args := [g.ev lv]) Try.func98 rfl Try.ntmps98 rfl ?_
  have H := Own.start w
  ((repeat refine JC.seq ?_); refine JC.region ?_)
  refine JL.box H rfl rfl rfl ?_
  intro b1 w1 H
  refine JL.pure rfl rfl ?_
  refine JL.pure rfl rfl ?_
  refine JL.nil ?_
  ((repeat refine Ex.normal_block ?_); refine Ex.next ?_)
  ((repeat refine JC.seq ?_); refine JC.region ?_)
  refine JL.loadB 0 H rfl sh52 rfl rfl rfl ?_
  refine JL.call fb108 rfl rfl (all_c g lv _ (hl.grow H.below)) ?_
  rintro _ w2 ⟨av, rfl, K⟩
  have H := H.join K
  refine ⟨_, rfl, ?_⟩
  refine JL.pure rfl rfl ?_
  refine JL.pure rfl rfl ?_
  refine JL.pure rfl rfl ?_
  refine JL.pure rfl rfl ?_
  refine JL.pure rfl rfl ?_
  refine JL.nil ?_
  ((repeat refine Ex.normal_block ?_); refine Ex.next ?_)
  ((repeat refine JC.seq ?_); refine JC.region ?_)
  refine JL.pure rfl rfl ?_
  refine JL.pure rfl rfl ?_
  refine JL.nil ?_
  ((repeat refine Ex.normal_block ?_); refine Ex.next ?_)
  ((repeat refine JC.seq ?_); refine JC.cond rfl ?_ ?_)
  · intro h12
    (try simp only [Bool.not_eq_true', Bool.not_eq_false', decide_eq_true_eq, decide_eq_false_iff_not] at h12)
    ((repeat refine JC.seq ?_); refine JC.region ?_)
    refine JL.pure rfl rfl ?_
    refine JL.pure rfl rfl ?_
    refine JL.pure rfl rfl ?_
    refine JL.nil ?_
    ((repeat refine Ex.normal_block ?_); refine Ex.next ?_)
    ((repeat refine JC.seq ?_); refine JC.ret ?_)
    (repeat (first | refine Ex.ret_then ?_ | refine Ex.ret_block ?_))
    refine Ex.ret2 rfl (.tmp rfl) (.tmp rfl) ?_
    unfold seaR ResR; rw [if_neg h12]
    exact ⟨_, rfl, (((H.drop 0).drop 0).nilRow 140 3)⟩
  · intro h12
    (try simp only [Bool.not_eq_true', Bool.not_eq_false', decide_eq_true_eq, decide_eq_false_iff_not] at h12)
    ((repeat refine JC.seq ?_); refine JC.skip ?_)
    ((repeat refine Ex.normal_block ?_); refine Ex.next ?_)
    ((repeat refine JC.seq ?_); refine JC.region ?_)
    refine JL.loadB 1 H rfl sh52 rfl rfl rfl ?_
    refine JL.pure rfl rfl ?_
    refine JL.fieldAddr rfl Try.underlying52 rfl sh50 rfl ?_
    refine JL.loadB 1 H rfl sh50 rfl rfl rfl ?_
    refine JL.call fb57 rfl rfl (without_c g lv av lv (allR g).1 g.land _ (hl.grow H.below) (runSl H (j := 0) rfl (by have := allR_len g; omega)) (hl.grow H.below) (H.rowCap (j := 0) rfl) hcl) ?_
    rintro _ w3 ⟨sv, rfl, K⟩
    have H := H.join K
    refine ⟨_, rfl, ?_⟩
    refine JL.pure rfl rfl ?_
    refine JL.pure rfl rfl ?_
    refine JL.pure rfl rfl ?_
    refine JL.pure rfl rfl ?_
    refine JL.nil ?_
    ((repeat refine Ex.normal_block ?_); refine Ex.next ?_)
    ((repeat refine JC.seq ?_); refine JC.ret ?_)
    (repeat (first | refine Ex.ret_then ?_ | refine Ex.ret_block ?_))
    refine Ex.ret2 rfl (.tmp rfl) (.tmp rfl) ?_
    unfold seaR ResR; rw [if_pos (by omega)]
    exact ⟨_, rfl, (H.drop 1).drop 1⟩
end Go.J
