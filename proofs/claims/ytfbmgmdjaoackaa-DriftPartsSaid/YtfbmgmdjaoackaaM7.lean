/-
  Lemmas for the statements of this seat; no statement is proved here. No condition.
-/
import Derived.Test.YtfbmgmdjaoackaaM6
import Derived.Test.YtfbmgmdjaoackaaM2
import Derived.Test.YtfbmgmdjaoackaaM3
import Derived.Deep.Slices
import Derived.Deep.Strs
import Derived.Lib.SmallJoins
import Derived.OpenShut
namespace Go.J
open Go.RowKit Go.Proofs
set_option maxRecDepth 8000
set_option linter.unusedSimpArgs false
set_option linter.unusedVariables false
/-! drift: pairs of patches -/
theorem op_two0 (g : Grid) : OpIs 54 g (twoR 0 g) := by rw [show twoR 0 g = eitherR g from funext fun x => funext fun y => (eitherR_two ..).symm]; exact op_either g
theorem op_two1 (g : Grid) : OpIs 42 g (twoR 1 g) := by rw [show twoR 1 g = bothR g from funext fun x => funext fun y => (bothR_two ..).symm]; exact op_both g
theorem op_two2 (g : Grid) : OpIs 57 g (twoR 2 g) := by rw [show twoR 2 g = withoutR g from funext fun x => funext fun y => (withoutR_two ..).symm]; exact op_without g
theorem pair1_c (fo : FuncId) (g : Grid) (op : List Run → List Run → List Run × Int) (hop : OpIs fo g op) (lv : Value) (t t' : Int) (a1 a2 a3 a4 a5 a6 : Option Addr) (d1 d2 d3 d4 d5 d6 : Nat) (l r b l' r' b' : List Run) (off off' : Bool) (i : Nat) (β1 β2 β3 β4 : Nat) (w : World)
    (g1 : LdAt w β1 0 (false, 1) (.func (.func fo) #[] #[])) (g2 : LdAt w β2 0 (true, 4) (g.ev lv)) (g3 : LdAt w β3 0 (true, 5) (.agg ⟨[.int .i64 t, .slice a1 l.length d1, .slice a2 r.length d2, .slice a3 b.length d3, .bool off]⟩)) (g4 : LdAt w β4 0 (true, 5) (.agg ⟨[.int .i64 t', .slice a4 l'.length d4, .slice a5 r'.length d5, .slice a6 b'.length d6, .bool off']⟩))
    (b1 : β1 < w.heap.size) (b2 : β2 < w.heap.size) (b3 : β3 < w.heap.size) (b4 : β4 < w.heap.size) (hi : i < 3) (hl : SlR w lv g.land) (h1 : SlR w (.slice a1 l.length d1) l) (h2 : SlR w (.slice a2 r.length d2) r) (h3 : SlR w (.slice a3 b.length d3) b)
    (k1 : SlR w (.slice a4 l'.length d4) l') (k2 : SlR w (.slice a5 r'.length d5) r') (k3 : SlR w (.slice a6 b'.length d6) b')
    (c1 : capOK (.slice a1 l.length d1)) (c2 : capOK (.slice a2 r.length d2)) (c3 : capOK (.slice a3 b.length d3)) (c4 : capOK (.slice a4 l'.length d4)) (c5 : capOK (.slice a5 r'.length d5)) (c6 : capOK (.slice a6 b'.length d6)) :
    Calls Try.prog 239 #[.int .i64 i, .pointer (some ⟨β1, 0, none⟩), .pointer (some ⟨β2, 0, none⟩), .pointer (some ⟨β3, 0, none⟩), .pointer (some ⟨β4, 0, none⟩)] w (fun e w' => ResR w w' [] (op (nth3 l r b i) (nth3 l' r' b' i)) e) := by
  refine calls_J (args := [.int .i64 i, .pointer (some ⟨β1, 0, none⟩), .pointer (some ⟨β2, 0, none⟩), .pointer (some ⟨β3, 0, none⟩), .pointer (some ⟨β4, 0, none⟩)]) Try.func239 rfl Try.ntmps239 rfl ?_
  have H := Own.start w
  ((repeat refine JC.seq ?_); refine JC.region ?_)
  refine JL.pure rfl rfl ?_
  refine JL.pure rfl rfl ?_
  refine JL.nil ?_
  ((repeat refine Ex.normal_block ?_); refine Ex.next ?_)
  ((repeat refine JC.seq ?_); refine JC.drawS H mixed ?_)
  intro w1 H
  refine DR.any 0 10 H (by kernel_rfl) ?_
  refine JD.load rfl sh333 (fun w hw => g1.grow b1 hw.below) rfl ?_
  refine JD.load rfl sh52 (fun w hw => g2.grow b2 hw.below) rfl ?_
  refine JD.load rfl sh90 (fun w hw => g3.grow b3 hw.below) rfl ?_
  refine JD.call fb202 rfl rfl (fun w hw => ofD_c t a1 a2 a3 l.length r.length b.length d1 d2 d3 off w) ?_
  refine JD.pure rfl rfl ?_
  obtain ⟨zxa, zxc, hzx, hzsx, hzcx⟩ : ∃ za zc, [Value.slice a1 l.length d1, .slice a2 r.length d2, .slice a3 b.length d3][i]? = some (.slice za (nth3 l r b i).length zc) ∧ SlR w (.slice za (nth3 l r b i).length zc) (nth3 l r b i) ∧ capOK (.slice za (nth3 l r b i).length zc) := by
    rcases (show i = 0 ∨ i = 1 ∨ i = 2 by omega) with rfl | rfl | rfl
    · exact ⟨_, _, rfl, h1, c1⟩
    · exact ⟨_, _, rfl, h2, c2⟩
    · exact ⟨_, _, rfl, h3, c3⟩
  refine JD.index1 i rfl rfl Try.underlying292 sh50 rfl hi hzx rfl ?_
  refine JD.load rfl sh90 (fun w hw => g4.grow b4 hw.below) rfl ?_
  refine JD.call fb202 rfl rfl (fun w hw => ofD_c t' a4 a5 a6 l'.length r'.length b'.length d4 d5 d6 off' w) ?_
  refine JD.pure rfl rfl ?_
  obtain ⟨zya, zyc, hzy, hzsy, hzcy⟩ : ∃ za zc, [Value.slice a4 l'.length d4, .slice a5 r'.length d5, .slice a6 b'.length d6][i]? = some (.slice za (nth3 l' r' b' i).length zc) ∧ SlR w (.slice za (nth3 l' r' b' i).length zc) (nth3 l' r' b' i) ∧ capOK (.slice za (nth3 l' r' b' i).length zc) := by
    rcases (show i = 0 ∨ i = 1 ∨ i = 2 by omega) with rfl | rfl | rfl
    · exact ⟨_, _, rfl, k1, c4⟩
    · exact ⟨_, _, rfl, k2, c5⟩
    · exact ⟨_, _, rfl, k3, c6⟩
  refine JD.index1 i rfl rfl Try.underlying292 sh50 rfl hi hzy rfl ?_
  refine JD.nil ?_
  intro w2 H
  show DR _ _ _ _ _ _ _
  refine DR.op rfl (by kernel_rfl) ?_
  refine JL.callv rfl hop.1 rfl rfl (hop.2 _ _ _ (nth3 l r b i) (nth3 l' r' b' i) _ (hl.grow H.below) (hzsx.grow H.below) (hzsy.grow H.below) hzcx hzcy) ?_
  rintro _ w3 ⟨rv, rfl, K⟩
  have H := H.join K
  refine ⟨_, rfl, ?_⟩
  refine DR.next ?_
  refine DR.any 11 15 H (by kernel_rfl) ?_
  refine JD.pure rfl rfl ?_
  refine JD.pure rfl rfl ?_
  refine JD.pure rfl rfl ?_
  refine JD.pure rfl rfl ?_
  refine JD.nil ?_
  intro w4 H
  show DR _ _ _ _ _ _ _
  refine DR.done rfl ?_
  ((repeat refine Ex.normal_block ?_); refine Ex.next ?_)
  ((repeat refine JC.seq ?_); refine JC.ret ?_)
  (repeat (first | refine Ex.ret_then ?_ | refine Ex.ret_block ?_))
  refine Ex.ret2 rfl (.tmp rfl) (.tmp rfl) ⟨_, rfl, H⟩
theorem pair_c (fo : FuncId) (n : Int) (g : Grid) (hop : OpIs fo g (twoR n g)) (lv : Value) (t t' : Int) (lf rf bf lf' rf' bf' : Value) (l r b l' r' b' : List Run) (off off' o : Bool) (w : World) (hl : SlR w lv g.land) (hcl : capOK lv) (h1 : SlR w lf l) (h2 : SlR w rf r) (h3 : SlR w bf b) (k1 : SlR w lf' l') (k2 : SlR w rf' r') (k3 : SlR w bf' b')
    (c1 : capOK lf) (c2 : capOK rf) (c3 : capOK bf) (c4 : capOK lf') (c5 : capOK rf') (c6 : capOK bf') :
    Calls Try.prog 152 #[g.ev lv, Patch.ev ⟨t, lf, l, rf, r, bf, b, off⟩, Patch.ev ⟨t', lf', l', rf', r', bf', b', off'⟩, .func (.func fo) #[] #[], .bool o] w (fun e w' => PatR w w' [] (pairR n g ⟨t, l, r, b, off⟩ ⟨t', l', r', b', off'⟩ o) e) := by
  obtain ⟨la, lc, rfl⟩ := hl.len
  obtain ⟨a1, d1, rfl⟩ := h1.len
  obtain ⟨a2, d2, rfl⟩ := h2.len
  obtain ⟨a3, d3, rfl⟩ := h3.len
  obtain ⟨a4, d4, rfl⟩ := k1.len
  obtain ⟨a5, d5, rfl⟩ := k2.len
  obtain ⟨a6, d6, rfl⟩ := k3.len
  obtain ⟨R, hR⟩ : ∃ R, R = pairR n g ⟨t, l, r, b, off⟩ ⟨t', l', r', b', off'⟩ o := ⟨_, rfl⟩
  rw [← hR]
  unfold pairR at hR
  simp only at hR
  refine calls_J (args := [g.ev (.slice la g.land.length lc), .agg ⟨[.int .i64 t, .slice a1 l.length d1, .slice a2 r.length d2, .slice a3 b.length d3, .bool off]⟩, .agg ⟨[.int .i64 t', .slice a4 l'.length d4, .slice a5 r'.length d5, .slice a6 b'.length d6, .bool off']⟩, .func (.func fo) #[] #[], .bool o]) Try.func152 rfl Try.ntmps152 rfl ?_
  have H := Own.start w
  ((repeat refine JC.seq ?_); refine JC.region ?_)
  refine JL.box H rfl rfl rfl ?_
  intro b5 w1 H
  refine JL.box H rfl rfl rfl ?_
  intro b6 w2 H
  refine JL.box H rfl rfl rfl ?_
  intro b7 w3 H
  refine JL.box H rfl rfl rfl ?_
  intro b8 w4 H
  refine JL.alloc H z90 rfl ?_
  intro b10 w5 H
  refine JL.pure rfl rfl ?_
  refine JL.nil ?_
  ((repeat refine Ex.normal_block ?_); refine Ex.next ?_)
  ((repeat refine JC.seq ?_); refine JC.region ?_)
  refine JL.loadB 4 H rfl sh52 rfl rfl rfl ?_
  refine JL.loadB 3 H rfl sh90 rfl rfl rfl ?_
  refine JL.callP H fb149 rfl rfl (checkPatch_c g _ t _ _ _ l r b off _ (hl.grow H.below) hcl (h1.grow H.below) (h2.grow H.below) (h3.grow H.below) c1 c2 c3) ?_
  intro w6 H _
  refine JL.re 16 rfl (v' := .int .i64 (if patR g ⟨t, l, r, b, off⟩ = true then 0 else 2)) rfl ?_
  refine JL.pure rfl rfl ?_
  refine JL.pure rfl rfl ?_
  refine JL.cases 18 rfl ?_ ?_
  · intro h18
    (try simp only [Bool.not_eq_true', Bool.not_eq_false', decide_eq_true_eq, decide_eq_false_iff_not] at h18)
    refine JL.pass rfl rfl rfl rfl ?_
    refine JL.pass rfl rfl rfl rfl ?_
    refine JL.pass rfl rfl rfl rfl ?_
    refine JL.pass rfl rfl rfl rfl ?_
    refine JL.pure rfl rfl ?_
    refine JL.pure rfl rfl ?_
    refine JL.pass rfl rfl rfl rfl ?_
    refine JL.pass rfl rfl rfl rfl ?_
    refine JL.pass rfl rfl rfl rfl ?_
    refine JL.pass rfl rfl rfl rfl ?_
    refine JL.pass rfl rfl rfl rfl ?_
    refine JL.pure rfl rfl ?_
    refine JL.nil ?_
    ((repeat refine Ex.normal_block ?_); refine Ex.next ?_)
    ((repeat refine JC.seq ?_); refine JC.cond rfl (fun _ => ?_) (fun h => by cases h))
    ((repeat refine JC.seq ?_); refine JC.region ?_)
    refine JL.build s90 rfl rfl ?_
    refine JL.storeB 0 H rfl rfl sh90 rfl rfl rfl rfl rfl ?_
    intro w7 H
    refine JL.pure rfl rfl ?_
    refine JL.nil ?_
    ((repeat refine Ex.normal_block ?_); refine Ex.next ?_)
    ((repeat refine JC.seq ?_); refine JC.ret ?_)
    (repeat (first | refine Ex.ret_then ?_ | refine Ex.ret_block ?_))
    refine Ex.ret2 rfl (.cell rfl sh90 (LdAt.of_block (H.get (i := 0) rfl).2 rfl)) (.tmp rfl) ?_
    have hst : R = (zQP, 2) := by
      rw [hR, if_pos]
      simp_all
    rw [hst]
    exact PatR.zero (((((H.drop 0).drop 0).drop 0).drop 0).drop 0) 2
  · intro h18
    (try simp only [Bool.not_eq_true', Bool.not_eq_false', decide_eq_true_eq, decide_eq_false_iff_not] at h18)
    refine JL.want rfl rfl ?_
    refine JL.loadB 4 H rfl sh52 rfl rfl rfl ?_
    refine JL.want rfl rfl ?_
    refine JL.loadB 2 H rfl sh90 rfl rfl rfl ?_
    refine JL.want rfl rfl ?_
    refine JL.callP H fb149 rfl rfl (checkPatch_c g _ t' _ _ _ l' r' b' off' _ (hl.grow H.below) hcl (k1.grow H.below) (k2.grow H.below) (k3.grow H.below) c4 c5 c6) ?_
    intro w8 H _
    refine JL.re 21 rfl (v' := .int .i64 (if patR g ⟨t', l', r', b', off'⟩ = true then 0 else 2)) rfl ?_
    refine JL.want rfl rfl ?_
    refine JL.pure rfl rfl ?_
    refine JL.pure rfl rfl ?_
    refine JL.pure rfl rfl ?_
    refine JL.cases 24 rfl ?_ ?_
    · intro h24
      (try simp only [Bool.not_eq_true', Bool.not_eq_false', decide_eq_true_eq, decide_eq_false_iff_not] at h24)
      refine JL.pass rfl rfl rfl rfl ?_
      refine JL.pass rfl rfl rfl rfl ?_
      refine JL.pass rfl rfl rfl rfl ?_
      refine JL.pass rfl rfl rfl rfl ?_
      refine JL.pass rfl rfl rfl rfl ?_
      refine JL.pure rfl rfl ?_
      refine JL.nil ?_
      ((repeat refine Ex.normal_block ?_); refine Ex.next ?_)
      ((repeat refine JC.seq ?_); refine JC.cond rfl (fun _ => ?_) (fun h => by cases h))
      ((repeat refine JC.seq ?_); refine JC.region ?_)
      refine JL.build s90 rfl rfl ?_
      refine JL.storeB 0 H rfl rfl sh90 rfl rfl rfl rfl rfl ?_
      intro w9 H
      refine JL.pure rfl rfl ?_
      refine JL.nil ?_
      ((repeat refine Ex.normal_block ?_); refine Ex.next ?_)
      ((repeat refine JC.seq ?_); refine JC.ret ?_)
      (repeat (first | refine Ex.ret_then ?_ | refine Ex.ret_block ?_))
      refine Ex.ret2 rfl (.cell rfl sh90 (LdAt.of_block (H.get (i := 0) rfl).2 rfl)) (.tmp rfl) ?_
      have hst : R = (zQP, 2) := by
        rw [hR, if_pos]
        simp_all
      rw [hst]
      exact PatR.zero (((((H.drop 0).drop 0).drop 0).drop 0).drop 0) 2
    · intro h24
      (try simp only [Bool.not_eq_true', Bool.not_eq_false', decide_eq_true_eq, decide_eq_false_iff_not] at h24)
      refine JL.want rfl rfl ?_
      refine JL.fieldAddr rfl Try.underlying90 rfl sh3 rfl ?_
      refine JL.want rfl rfl ?_
      refine JL.loadB 3 H rfl sh3 rfl rfl rfl ?_
      refine JL.want rfl rfl ?_
      refine JL.fieldAddr rfl Try.underlying90 rfl sh3 rfl ?_
      refine JL.want rfl rfl ?_
      refine JL.loadB 2 H rfl sh3 rfl rfl rfl ?_
      refine JL.want rfl rfl ?_
      refine JL.pure rfl rfl ?_
      refine JL.pure rfl rfl ?_
      refine JL.nil ?_
      ((repeat refine Ex.normal_block ?_); refine Ex.next ?_)
      ((repeat refine JC.seq ?_); refine JC.cond rfl ?_ ?_)
      · intro h30
        (try simp only [Bool.not_eq_true', Bool.not_eq_false', decide_eq_true_eq, decide_eq_false_iff_not] at h30)
        ((repeat refine JC.seq ?_); refine JC.region ?_)
        refine JL.build s90 rfl rfl ?_
        refine JL.storeB 0 H rfl rfl sh90 rfl rfl rfl rfl rfl ?_
        intro w10 H
        refine JL.pure rfl rfl ?_
        refine JL.nil ?_
        ((repeat refine Ex.normal_block ?_); refine Ex.next ?_)
        ((repeat refine JC.seq ?_); refine JC.ret ?_)
        (repeat (first | refine Ex.ret_then ?_ | refine Ex.ret_block ?_))
        refine Ex.ret2 rfl (.cell rfl sh90 (LdAt.of_block (H.get (i := 0) rfl).2 rfl)) (.tmp rfl) ?_
        have hst : R = (zQP, 2) := by
          rw [hR, if_pos]
          simp_all
        rw [hst]
        exact PatR.zero (((((H.drop 0).drop 0).drop 0).drop 0).drop 0) 2
      · intro h30
        (try simp only [Bool.not_eq_true', Bool.not_eq_false', decide_eq_true_eq, decide_eq_false_iff_not] at h30)
        ((repeat refine JC.seq ?_); refine JC.skip ?_)
        ((repeat refine Ex.normal_block ?_); refine Ex.next ?_)
        ((repeat refine JC.seq ?_); refine JC.region ?_)
        refine JL.pure rfl rfl ?_
        have gF := H.get (i := 1) rfl
        have gG := H.get (i := 4) rfl
        have gP := H.get (i := 3) rfl
        have gQ := H.get (i := 2) rfl
        have lF := lt_of_block gF.2
        have lG := lt_of_block gG.2
        have lP := lt_of_block gP.2
        have lQ := lt_of_block gQ.2
        refine JL.call fb231 rfl rfl (each3_c 239 [.pointer (some ⟨b8, 0, none⟩), .pointer (some ⟨b5, 0, none⟩), .pointer (some ⟨b6, 0, none⟩), .pointer (some ⟨b7, 0, none⟩)] (fun i => twoR n g (nth3 l r b i) (nth3 l' r' b' i)) _ fb239
          (fun w' hb' i hi3 => pair1_c fo g _ hop (.slice la g.land.length lc) t t' a1 a2 a3 a4 a5 a6 d1 d2 d3 d4 d5 d6 l r b l' r' b' off off' i b8 b5 b6 b7 w' ((LdAt.of_block gF.2 rfl).grow lF hb') ((LdAt.of_block gG.2 rfl).grow lG hb') ((LdAt.of_block gP.2 rfl).grow lP hb') ((LdAt.of_block gQ.2 rfl).grow lQ hb')
            (Nat.lt_of_lt_of_le lF hb'.size) (Nat.lt_of_lt_of_le lG hb'.size) (Nat.lt_of_lt_of_le lP hb'.size) (Nat.lt_of_lt_of_le lQ hb'.size) hi3 (hl.grow (H.below.trans (hb'.mono H.below.size))) (h1.grow (H.below.trans (hb'.mono H.below.size))) (h2.grow (H.below.trans (hb'.mono H.below.size))) (h3.grow (H.below.trans (hb'.mono H.below.size))) (k1.grow (H.below.trans (hb'.mono H.below.size))) (k2.grow (H.below.trans (hb'.mono H.below.size))) (k3.grow (H.below.trans (hb'.mono H.below.size))) c1 c2 c3 c4 c5 c6)) ?_
        rintro _ w11 ⟨a0', n0', c0', a1', n1', c1', a2', n2', c2', rfl, K⟩
        have H := H.join K
        refine ⟨_, rfl, ?_⟩
        refine JL.pure rfl rfl ?_
        refine JL.pure rfl rfl ?_
        refine JL.pure rfl rfl ?_
        refine JL.alloc H z292 rfl ?_
        intro b12 w12 H
        refine JL.storeB 0 H rfl rfl sh292 rfl rfl rfl rfl rfl ?_
        intro w13 H
        refine JL.pure rfl rfl ?_
        refine JL.nil ?_
        ((repeat refine Ex.normal_block ?_); refine Ex.next ?_)
        ((repeat refine JC.seq ?_); refine JC.region ?_)
        refine JL.pure rfl rfl ?_
        refine JL.pure rfl rfl ?_
        refine JL.nil ?_
        ((repeat refine Ex.normal_block ?_); refine Ex.next ?_)
        ((repeat refine JC.seq ?_); refine JC.cond rfl ?_ ?_)
        · intro h38
          (try simp only [Bool.not_eq_true', Bool.not_eq_false', decide_eq_true_eq, decide_eq_false_iff_not] at h38)
          ((repeat refine JC.seq ?_); refine JC.region ?_)
          refine JL.build s90 rfl rfl ?_
          refine JL.pure rfl rfl ?_
          refine JL.storeB 4 H rfl rfl sh90 rfl rfl rfl rfl rfl ?_
          intro w14 H
          refine JL.pure rfl rfl ?_
          refine JL.nil ?_
          ((repeat refine Ex.normal_block ?_); refine Ex.next ?_)
          ((repeat refine JC.seq ?_); refine JC.ret ?_)
          (repeat (first | refine Ex.ret_then ?_ | refine Ex.ret_block ?_))
          refine Ex.ret2 rfl (.cell rfl sh90 (LdAt.of_block (H.get (i := 4) rfl).2 rfl)) (.tmp rfl) ?_
          have hst : R = (zQP, firstErr (fun i => twoR n g (nth3 l r b i) (nth3 l' r' b' i))) := by
            rw [hR, if_neg (by simp_all), if_pos (by simp_all)]
          rw [hst]
          exact PatR.zero (((((((((H.drop 0).drop 0).drop 0).drop 0).drop 0).drop 0).drop 0).drop 0).drop 0) _
        · intro h38
          (try simp only [Bool.not_eq_true', Bool.not_eq_false', decide_eq_true_eq, decide_eq_false_iff_not] at h38)
          ((repeat refine JC.seq ?_); refine JC.skip ?_)
          ((repeat refine Ex.normal_block ?_); refine Ex.next ?_)
          ((repeat refine JC.seq ?_); refine JC.region ?_)
          refine JL.loadB 0 H rfl sh292 rfl rfl rfl ?_
          refine JL.fieldAddr rfl Try.underlying90 rfl sh3 rfl ?_
          refine JL.loadB 7 H rfl sh3 rfl rfl rfl ?_
          refine JL.pure rfl rfl ?_
          refine JL.callP H fb234 rfl rfl (patchD_c _ a0' a1' a2' _ _ _ c0' c1' c2' _ _) ?_
          intro w15 H _
          refine JL.storeB 4 H rfl rfl sh90 rfl rfl rfl rfl rfl ?_
          intro w16 H
          refine JL.pure rfl rfl ?_
          refine JL.nil ?_
          ((repeat refine Ex.normal_block ?_); refine Ex.next ?_)
          ((repeat refine JC.seq ?_); refine JC.ret ?_)
          (repeat (first | refine Ex.ret_then ?_ | refine Ex.ret_block ?_))
          refine Ex.ret2 rfl (.cell rfl sh90 (LdAt.of_block (H.get (i := 4) rfl).2 rfl)) (.tmp rfl) ?_
          have he : firstErr (fun i => twoR n g (nth3 l r b i) (nth3 l' r' b' i)) = 0 := by simpa using h38
          have hst : R = (⟨t, eR (fun i => twoR n g (nth3 l r b i) (nth3 l' r' b' i)) 0, eR (fun i => twoR n g (nth3 l r b i) (nth3 l' r' b' i)) 1, eR (fun i => twoR n g (nth3 l r b i) (nth3 l' r' b' i)) 2, o⟩, 0) := by
            rw [hR, if_neg (by simp_all), if_neg (by simp_all)]
            unfold eR
            rw [if_pos he, if_pos he, if_pos he]
            rfl
          rw [hst]
          exact ⟨_, _, _, rfl, ((((((H.drop 0).drop 3).drop 3).drop 3).drop 3).drop 3)⟩
end Go.J

namespace Go.J
set_option linter.unusedSimpArgs false
set_option linter.unusedVariables false
/-! plain: what of a patch is in a region, and what is not -/
def whereR (g : Grid) (p : QP) : List Run × Int := if patR g p then runsR g (fun c => (hasB p.l c || hasB p.r c) || hasB p.b c) else ([], 2)
theorem right_unique {g : Grid} (hg : g.ok = true) {a b : List Run} (ha : rightB g.W g.H a = true) (hb : rightB g.W g.H b = true) (h : ∀ c, hasB a c = true ↔ hasB b c = true) : a = b := by
  obtain ⟨hW, hH, _, _⟩ := Grid.ok_b hg
  exact canon_unique (by omega) (canon_of_right ha) (canon_of_right hb) h
theorem right_none {g : Grid} {a : List Run} (ha : rightB g.W g.H a = true) (h : ∀ c, hasB a c = true → False) : a = [] := canon_none (canon_of_right ha) fun c => Bool.eq_false_iff.2 fun hh => h c hh
theorem twoB1 {x y : Bool} : twoB 1 x y = true ↔ x = true ∧ y = true := by unfold twoB; simp
theorem twoB0 {x y : Bool} : twoB 0 x y = true ↔ x = true ∨ y = true := by unfold twoB; simp
theorem twoB2 {x y : Bool} : twoB 2 x y = true ↔ x = true ∧ y = false := by unfold twoB; simp
theorem QP.eta {a : QP} {t : Int} {l r b : List Run} {o : Bool} (h0 : t = a.time) (h1 : l = a.l) (h2 : r = a.r) (h3 : b = a.b) (h4 : o = a.off) : (⟨t, l, r, b, o⟩ : QP) = a := by subst h0 h1 h2 h3 h4; rfl
theorem dparts_law {g : Grid} (hs : g.ok = true → g.W * g.H ≤ 4096) (a : QP) (r : List Run) :
    (cutR 1 g a r = (zQP, 2) ∧ cutR 2 g a r = (zQP, 2)) ∨
    ∃ I O, (cutR 1 g a r = (I, 0) ∧ cutR 2 g a r = (O, 0)) ∧ pairR 0 g I O (I.off || O.off) = (a, 0) ∧ (whereR g a).2 = 0 ∧ (whereR g I).2 = 0 ∧ (bothR g (whereR g a).1 r).2 = 0 ∧ meetPR g I O = (zQP, 7) ∧ (whereR g I).1 = (bothR g (whereR g a).1 r).1 ∧
      ∀ b : QP, (pairR 0 g a b (a.off || b.off)).2 = 0 → (emptyQ a = true ∧ (meetPR g a (pairR 0 g a b (a.off || b.off)).1).2 = 7) ∨ meetPR g a (pairR 0 g a b (a.off || b.off)).1 = (a, 0) := by
  rcases cutR_ok (n := 1) hs (p := a) (r := r) with ⟨e1, hh⟩ | ⟨hp, hr, e1⟩
  · left
    refine ⟨e1, ?_⟩
    unfold cutR
    rw [if_pos hh]
  right
  rcases cutR_ok (n := 2) hs (p := a) (r := r) with ⟨_, hh⟩ | ⟨_, _, e2⟩
  · exfalso
    obtain ⟨hg, _⟩ := patR_ok hs hp
    rw [hp, checked_one hg hr] at hh
    cases hh
  obtain ⟨hg, ht, ⟨a1, a2, a3⟩, l1, l2, l3⟩ := patR_ok hs hp
  obtain ⟨pI, _⟩ := cut_pat (.inl rfl) hs hp hr
  obtain ⟨pO, _⟩ := cut_pat (.inr rfl) hs hp hr
  obtain ⟨_, x1, y1⟩ := two_ok hg (hs hg) 1 a1 hr
  obtain ⟨_, x2, y2⟩ := two_ok hg (hs hg) 1 a2 hr
  obtain ⟨_, x3, y3⟩ := two_ok hg (hs hg) 1 a3 hr
  obtain ⟨_, u1, v1⟩ := two_ok hg (hs hg) 2 a1 hr
  obtain ⟨_, u2, v2⟩ := two_ok hg (hs hg) 2 a2 hr
  obtain ⟨_, u3, v3⟩ := two_ok hg (hs hg) 2 a3 hr
  refine ⟨_, _, ⟨e1, e2⟩, ?_, ?_⟩
  · rcases pairR_ok (n := 0) hs (p := ⟨a.time, (twoR 1 g a.l r).1, (twoR 1 g a.r r).1, (twoR 1 g a.b r).1, a.off⟩) (q := ⟨a.time, (twoR 2 g a.l r).1, (twoR 2 g a.r r).1, (twoR 2 g a.b r).1, a.off⟩) (off := a.off || a.off) with ⟨_, hh⟩ | ⟨_, e⟩
    · exfalso
      rw [pI, pO] at hh
      simp at hh
    · simp only
      rw [e]
      obtain ⟨_, z1, w1⟩ := two_ok hg (hs hg) 0 x1 u1
      obtain ⟨_, z2, w2⟩ := two_ok hg (hs hg) 0 x2 u2
      obtain ⟨_, z3, w3⟩ := two_ok hg (hs hg) 0 x3 u3
      have key : ∀ {R : List Run} (hR : rightB g.W g.H R = true) {A B C : List Run} (hA : ∀ c, hasB A c = true ↔ inG g c ∧ twoB 1 (hasB R c) (hasB r c) = true) (hB : ∀ c, hasB B c = true ↔ inG g c ∧ twoB 2 (hasB R c) (hasB r c) = true)
          (hC : rightB g.W g.H C = true) (hCc : ∀ c, hasB C c = true ↔ inG g c ∧ twoB 0 (hasB A c) (hasB B c) = true), C = R := fun {R} hR {A B C} hA hB hC hCc => right_unique hg hC hR fun c => by
        rw [hCc c, twoB0, hA c, hB c, twoB1, twoB2]
        constructor
        · rintro ⟨_, h | h⟩
          · exact h.2.1
          · exact h.2.1
        · intro h
          have hin := canon_inG (canon_of_right hR) h
          cases hrc : hasB r c with
          | true => exact ⟨hin, .inl ⟨hin, h, rfl⟩⟩
          | false => exact ⟨hin, .inr ⟨hin, h, rfl⟩⟩
      exact congrArg (fun q => (q, (0 : Int))) (QP.eta rfl (key a1 y1 v1 z1 w1) (key a2 y2 v2 z2 w2) (key a3 y3 v3 z3 w3) (Bool.or_self _))
  obtain ⟨q1, q2, q3⟩ := runsR_small hg (hs hg) (fun c => (hasB a.l c || hasB a.r c) || hasB a.b c)
  obtain ⟨k1, k2, k3⟩ := runsR_small hg (hs hg) (fun c => (hasB (twoR 1 g a.l r).1 c || hasB (twoR 1 g a.r r).1 c) || hasB (twoR 1 g a.b r).1 c)
  have wA : whereR g a = runsR g (fun c => (hasB a.l c || hasB a.r c) || hasB a.b c) := by unfold whereR; rw [if_pos hp]
  have wI : whereR g ⟨a.time, (twoR 1 g a.l r).1, (twoR 1 g a.r r).1, (twoR 1 g a.b r).1, a.off⟩ = runsR g (fun c => (hasB (twoR 1 g a.l r).1 c || hasB (twoR 1 g a.r r).1 c) || hasB (twoR 1 g a.b r).1 c) := by unfold whereR; rw [if_pos pI]
  obtain ⟨b1, b2, b3⟩ := two_ok hg (hs hg) 1 q2 hr
  refine ⟨by rw [wA]; exact q1, by rw [wI]; exact k1, by rw [wA, bothR_two]; exact b1, ?_, ?_, ?_⟩
  · rcases pairR_ok (n := 1) hs (p := ⟨a.time, (twoR 1 g a.l r).1, (twoR 1 g a.r r).1, (twoR 1 g a.b r).1, a.off⟩) (q := ⟨a.time, (twoR 2 g a.l r).1, (twoR 2 g a.r r).1, (twoR 2 g a.b r).1, a.off⟩) (off := a.off && a.off) with ⟨_, hh⟩ | ⟨_, e⟩
    · exfalso
      rw [pI, pO] at hh
      simp at hh
    · obtain ⟨_, z1, w1⟩ := two_ok hg (hs hg) 1 x1 u1
      obtain ⟨_, z2, w2⟩ := two_ok hg (hs hg) 1 x2 u2
      obtain ⟨_, z3, w3⟩ := two_ok hg (hs hg) 1 x3 u3
      have key : ∀ {R A B C : List Run} (hA : ∀ c, hasB A c = true ↔ inG g c ∧ twoB 1 (hasB R c) (hasB r c) = true) (hB : ∀ c, hasB B c = true ↔ inG g c ∧ twoB 2 (hasB R c) (hasB r c) = true)
          (hC : rightB g.W g.H C = true) (hCc : ∀ c, hasB C c = true ↔ inG g c ∧ twoB 1 (hasB A c) (hasB B c) = true), C = [] := fun {R A B C} hA hB hC hCc => right_none hC fun c hc => by
        have h1 := twoB1.1 ((hCc c).1 hc).2
        have h2 := (twoB1.1 ((hA c).1 h1.1).2).2
        have h3 := (twoB2.1 ((hB c).1 h1.2).2).2
        rw [h2] at h3
        cases h3
      have n1 := key y1 v1 z1 w1
      have n2 := key y2 v2 z2 w2
      have n3 := key y3 v3 z3 w3
      unfold meetPR
      simp only
      rw [if_pos]
      rw [e]
      refine ⟨rfl, ?_⟩
      unfold emptyQ
      simp only [n1, n2, n3]
      rfl
  · rw [wA, wI, bothR_two]
    refine right_unique hg k2 b2 fun c => ?_
    rw [k3 c, b3 c, twoB1, q3 c]
    simp only [Bool.or_eq_true, y1 c, y2 c, y3 c, twoB1]
    constructor
    · rintro ⟨h0, (h | h) | h⟩
      · exact ⟨h0, ⟨h0, .inl (.inl h.2.1)⟩, h.2.2⟩
      · exact ⟨h0, ⟨h0, .inl (.inr h.2.1)⟩, h.2.2⟩
      · exact ⟨h0, ⟨h0, .inr h.2.1⟩, h.2.2⟩
    · rintro ⟨h0, ⟨_, (h | h) | h⟩, h2⟩
      · exact ⟨h0, .inl (.inl ⟨h0, h, h2⟩)⟩
      · exact ⟨h0, .inl (.inr ⟨h0, h, h2⟩)⟩
      · exact ⟨h0, .inr ⟨h0, h, h2⟩⟩
  · intro b hm
    rcases pairR_ok (n := 0) hs (p := a) (q := b) (off := a.off || b.off) with ⟨e, _⟩ | ⟨⟨_, pb, hbt⟩, e⟩
    · rw [e] at hm; cases hm
    rw [e]
    simp only
    obtain ⟨_, _, ⟨c1, c2, c3⟩, m1, m2, m3⟩ := patR_ok hs pb
    obtain ⟨_, z1, w1⟩ := two_ok hg (hs hg) 0 a1 c1
    obtain ⟨_, z2, w2⟩ := two_ok hg (hs hg) 0 a2 c2
    obtain ⟨_, z3, w3⟩ := two_ok hg (hs hg) 0 a3 c3
    have pM : patR g ⟨a.time, (twoR 0 g a.l b.l).1, (twoR 0 g a.r b.r).1, (twoR 0 g a.b b.b).1, a.off || b.off⟩ = true := patR_of hg (hs hg) ht z1 z2 z3
      (fun c hc => (twoB0.1 ((w1 c).1 hc).2).elim (l1 c) (m1 c)) (fun c hc => (twoB0.1 ((w2 c).1 hc).2).elim (l2 c) (m2 c)) (fun c hc => (twoB0.1 ((w3 c).1 hc).2).elim (l3 c) (m3 c))
    rcases pairR_ok (n := 1) hs (p := a) (q := ⟨a.time, (twoR 0 g a.l b.l).1, (twoR 0 g a.r b.r).1, (twoR 0 g a.b b.b).1, a.off || b.off⟩) (off := a.off && (a.off || b.off)) with ⟨_, hh⟩ | ⟨_, e'⟩
    · exfalso
      rw [hp, pM] at hh
      simp at hh
    obtain ⟨_, p1, o1⟩ := two_ok hg (hs hg) 1 a1 z1
    obtain ⟨_, p2, o2⟩ := two_ok hg (hs hg) 1 a2 z2
    obtain ⟨_, p3, o3⟩ := two_ok hg (hs hg) 1 a3 z3
    have key : ∀ {R B A C : List Run} (hR : rightB g.W g.H R = true) (hA : ∀ c, hasB A c = true ↔ inG g c ∧ twoB 0 (hasB R c) (hasB B c) = true) (hC : rightB g.W g.H C = true) (hCc : ∀ c, hasB C c = true ↔ inG g c ∧ twoB 1 (hasB R c) (hasB A c) = true), C = R :=
      fun {R B A C} hR hA hC hCc => right_unique hg hC hR fun c => by
        rw [hCc c, twoB1, hA c, twoB0]
        exact ⟨fun h => h.2.1, fun h => ⟨canon_inG (canon_of_right hR) h, h, canon_inG (canon_of_right hR) h, .inl h⟩⟩
    have eq : (⟨a.time, (twoR 1 g a.l (twoR 0 g a.l b.l).1).1, (twoR 1 g a.r (twoR 0 g a.r b.r).1).1, (twoR 1 g a.b (twoR 0 g a.b b.b).1).1, a.off && (a.off || b.off)⟩ : QP) = a :=
      QP.eta rfl (key a1 w1 p1 o1) (key a2 w2 p2 o2) (key a3 w3 p3 o3) (by cases a.off <;> cases b.off <;> rfl)
    unfold meetPR
    simp only
    rw [e']
    simp only
    rw [eq]
    cases he : emptyQ a with
    | true => left; exact ⟨rfl, by simp⟩
    | false => right; simp
end Go.J

namespace Go.J
open Go.RowKit Go.Proofs
set_option maxRecDepth 8000
set_option linter.unusedSimpArgs false
set_option linter.unusedVariables false
/-! drift: Except, Join, Meet, the same patch -/
theorem except111_c (g : Grid) (lv : Value) (t : Int) (lf rf bf qv : Value) (l r b q : List Run) (off : Bool) (w : World) (hl : SlR w lv g.land) (hcl : capOK lv) (h1 : SlR w lf l) (h2 : SlR w rf r) (h3 : SlR w bf b) (hq : SlR w qv q)
    (c1 : capOK lf) (c2 : capOK rf) (c3 : capOK bf) (c4 : capOK qv) :
    Calls Try.prog 111 #[g.ev lv, Patch.ev ⟨t, lf, l, rf, r, bf, b, off⟩, qv] w (fun e w' => PatR w w' [] (cutR 2 g ⟨t, l, r, b, off⟩ q) e) := by
  obtain ⟨la, lc, rfl⟩ := hl.len
  obtain ⟨a1, d1, rfl⟩ := h1.len
  obtain ⟨a2, d2, rfl⟩ := h2.len
  obtain ⟨a3, d3, rfl⟩ := h3.len
  obtain ⟨qa, qc, rfl⟩ := hq.len
  refine calls_J (args := [g.ev (.slice la g.land.length lc), .agg ⟨[.int .i64 t, .slice a1 l.length d1, .slice a2 r.length d2, .slice a3 b.length d3, .bool off]⟩, .slice qa q.length qc]) Try.func111 rfl Try.ntmps111 rfl ?_
  have H := Own.start w
  ((repeat refine JC.seq ?_); refine JC.region ?_)
  refine JL.box H rfl rfl rfl ?_
  intro b3 w1 H
  refine JL.box H rfl rfl rfl ?_
  intro b4 w2 H
  refine JL.alloc H z90 rfl ?_
  intro b6 w3 H
  refine JL.pure rfl rfl ?_
  refine JL.nil ?_
  ((repeat refine Ex.normal_block ?_); refine Ex.next ?_)
  ((repeat refine JC.seq ?_); refine JC.region ?_)
  refine JL.loadB 2 H rfl sh52 rfl rfl rfl ?_
  refine JL.loadB 1 H rfl sh90 rfl rfl rfl ?_
  refine JL.pure rfl rfl ?_
  refine JL.call fb195 rfl rfl (cut_c 57 2 g (op_two2 g) _ t _ _ _ _ l r b q off _ (hl.grow H.below) hcl (h1.grow H.below) (h2.grow H.below) (h3.grow H.below) (hq.grow H.below) c1 c2 c3 c4) ?_
  rintro _ w4 ⟨va, vb, vc, rfl, K⟩
  obtain ⟨xa, ya, rfl⟩ := K.row_slice (j := 0) rfl
  obtain ⟨xb, yb, rfl⟩ := K.row_slice (j := 1) rfl
  obtain ⟨xc, yc, rfl⟩ := K.row_slice (j := 2) rfl
  have H := H.join K
  refine ⟨_, rfl, ?_⟩
  refine JL.pure rfl rfl ?_
  refine JL.pure rfl rfl ?_
  refine JL.storeB 3 H rfl rfl sh90 rfl rfl rfl rfl rfl ?_
  intro w5 H
  refine JL.pure rfl rfl ?_
  refine JL.nil ?_
  ((repeat refine Ex.normal_block ?_); refine Ex.next ?_)
  ((repeat refine JC.seq ?_); refine JC.ret ?_)
  (repeat (first | refine Ex.ret_then ?_ | refine Ex.ret_block ?_))
  refine Ex.ret2 rfl (.cell rfl sh90 (LdAt.of_block (H.get (i := 3) rfl).2 rfl)) (.tmp rfl) ⟨_, _, _, rfl, (((H.drop 3).drop 3).drop 3)⟩
theorem join112_c (g : Grid) (lv : Value) (t t' : Int) (lf rf bf lf' rf' bf' : Value) (l r b l' r' b' : List Run) (off off' : Bool) (w : World) (hl : SlR w lv g.land) (hcl : capOK lv) (h1 : SlR w lf l) (h2 : SlR w rf r) (h3 : SlR w bf b) (k1 : SlR w lf' l') (k2 : SlR w rf' r') (k3 : SlR w bf' b')
    (c1 : capOK lf) (c2 : capOK rf) (c3 : capOK bf) (c4 : capOK lf') (c5 : capOK rf') (c6 : capOK bf') :
    Calls Try.prog 112 #[g.ev lv, Patch.ev ⟨t, lf, l, rf, r, bf, b, off⟩, Patch.ev ⟨t', lf', l', rf', r', bf', b', off'⟩] w (fun e w' => PatR w w' [] (pairR 0 g ⟨t, l, r, b, off⟩ ⟨t', l', r', b', off'⟩ (off || off')) e) := by
  obtain ⟨la, lc, rfl⟩ := hl.len
  obtain ⟨a1, d1, rfl⟩ := h1.len
  obtain ⟨a2, d2, rfl⟩ := h2.len
  obtain ⟨a3, d3, rfl⟩ := h3.len
  obtain ⟨a4, d4, rfl⟩ := k1.len
  obtain ⟨a5, d5, rfl⟩ := k2.len
  obtain ⟨a6, d6, rfl⟩ := k3.len
  refine calls_J (args := [g.ev (.slice la g.land.length lc), .agg ⟨[.int .i64 t, .slice a1 l.length d1, .slice a2 r.length d2, .slice a3 b.length d3, .bool off]⟩, .agg ⟨[.int .i64 t', .slice a4 l'.length d4, .slice a5 r'.length d5, .slice a6 b'.length d6, .bool off']⟩]) Try.func112 rfl Try.ntmps112 rfl ?_
  have H := Own.start w
  ((repeat refine JC.seq ?_); refine JC.region ?_)
  refine JL.box H rfl rfl rfl ?_
  intro b3 w1 H
  refine JL.box H rfl rfl rfl ?_
  intro b4 w2 H
  refine JL.box H rfl rfl rfl ?_
  intro b5 w3 H
  refine JL.alloc H z90 rfl ?_
  intro b6 w4 H
  refine JL.pure rfl rfl ?_
  refine JL.nil ?_
  ((repeat refine Ex.normal_block ?_); refine Ex.next ?_)
  ((repeat refine JC.seq ?_); refine JC.region ?_)
  refine JL.loadB 3 H rfl sh52 rfl rfl rfl ?_
  refine JL.loadB 2 H rfl sh90 rfl rfl rfl ?_
  refine JL.loadB 1 H rfl sh90 rfl rfl rfl ?_
  refine JL.fieldAddr rfl Try.underlying90 rfl sh4 rfl ?_
  refine JL.loadB 2 H rfl sh4 rfl rfl rfl ?_
  refine JL.pure rfl rfl ?_
  refine JL.cases 13 rfl ?_ ?_
  · intro h13
    (try simp only [Bool.not_eq_true', Bool.not_eq_false', decide_eq_true_eq, decide_eq_false_iff_not] at h13)
    refine JL.pass rfl rfl rfl rfl ?_
    refine JL.pass rfl rfl rfl rfl ?_
    refine JL.pure rfl rfl ?_
    refine JL.re 16 rfl (v' := .bool (off || off')) (by simp [h13]) ?_
    refine JL.call fb152 rfl rfl (pair_c 54 0 g (op_two0 g) _ t t' _ _ _ _ _ _ l r b l' r' b' off off' _ _ (hl.grow H.below) hcl (h1.grow H.below) (h2.grow H.below) (h3.grow H.below) (k1.grow H.below) (k2.grow H.below) (k3.grow H.below) c1 c2 c3 c4 c5 c6) ?_
    rintro _ w5 ⟨va, vb, vc, rfl, K⟩
    obtain ⟨xa, ya, rfl⟩ := K.row_slice (j := 0) rfl
    obtain ⟨xb, yb, rfl⟩ := K.row_slice (j := 1) rfl
    obtain ⟨xc, yc, rfl⟩ := K.row_slice (j := 2) rfl
    have H := H.join K
    refine ⟨_, rfl, ?_⟩
    refine JL.pure rfl rfl ?_
    refine JL.pure rfl rfl ?_
    refine JL.storeB 3 H rfl rfl sh90 rfl rfl rfl rfl rfl ?_
    intro w6 H
    refine JL.pure rfl rfl ?_
    refine JL.nil ?_
    ((repeat refine Ex.normal_block ?_); refine Ex.next ?_)
    ((repeat refine JC.seq ?_); refine JC.ret ?_)
    (repeat (first | refine Ex.ret_then ?_ | refine Ex.ret_block ?_))
    refine Ex.ret2 rfl (.cell rfl sh90 (LdAt.of_block (H.get (i := 3) rfl).2 rfl)) (.tmp rfl) ⟨_, _, _, rfl, ((((H.drop 3).drop 3).drop 3).drop 3)⟩
  · intro h13
    (try simp only [Bool.not_eq_true', Bool.not_eq_false', decide_eq_true_eq, decide_eq_false_iff_not] at h13)
    refine JL.want rfl rfl ?_
    refine JL.fieldAddr rfl Try.underlying90 rfl sh4 rfl ?_
    refine JL.want rfl rfl ?_
    refine JL.loadB 1 H rfl sh4 rfl rfl rfl ?_
    refine JL.pure rfl rfl ?_
    refine JL.re 16 rfl (v' := .bool (off || off')) (by simp [h13]) ?_
    refine JL.call fb152 rfl rfl (pair_c 54 0 g (op_two0 g) _ t t' _ _ _ _ _ _ l r b l' r' b' off off' _ _ (hl.grow H.below) hcl (h1.grow H.below) (h2.grow H.below) (h3.grow H.below) (k1.grow H.below) (k2.grow H.below) (k3.grow H.below) c1 c2 c3 c4 c5 c6) ?_
    rintro _ w7 ⟨va, vb, vc, rfl, K⟩
    obtain ⟨xa, ya, rfl⟩ := K.row_slice (j := 0) rfl
    obtain ⟨xb, yb, rfl⟩ := K.row_slice (j := 1) rfl
    obtain ⟨xc, yc, rfl⟩ := K.row_slice (j := 2) rfl
    have H := H.join K
    refine ⟨_, rfl, ?_⟩
    refine JL.pure rfl rfl ?_
    refine JL.pure rfl rfl ?_
    refine JL.storeB 3 H rfl rfl sh90 rfl rfl rfl rfl rfl ?_
    intro w8 H
    refine JL.pure rfl rfl ?_
    refine JL.nil ?_
    ((repeat refine Ex.normal_block ?_); refine Ex.next ?_)
    ((repeat refine JC.seq ?_); refine JC.ret ?_)
    (repeat (first | refine Ex.ret_then ?_ | refine Ex.ret_block ?_))
    refine Ex.ret2 rfl (.cell rfl sh90 (LdAt.of_block (H.get (i := 3) rfl).2 rfl)) (.tmp rfl) ⟨_, _, _, rfl, ((((H.drop 3).drop 3).drop 3).drop 3)⟩
theorem meet66_c (g : Grid) (lv : Value) (t t' : Int) (lf rf bf lf' rf' bf' : Value) (l r b l' r' b' : List Run) (off off' : Bool) (w : World) (hsm : g.ok = true → g.W * g.H ≤ 4096) (hl : SlR w lv g.land) (hcl : capOK lv) (h1 : SlR w lf l) (h2 : SlR w rf r) (h3 : SlR w bf b) (k1 : SlR w lf' l') (k2 : SlR w rf' r') (k3 : SlR w bf' b')
    (c1 : capOK lf) (c2 : capOK rf) (c3 : capOK bf) (c4 : capOK lf') (c5 : capOK rf') (c6 : capOK bf') :
    Calls Try.prog 66 #[g.ev lv, Patch.ev ⟨t, lf, l, rf, r, bf, b, off⟩, Patch.ev ⟨t', lf', l', rf', r', bf', b', off'⟩] w (fun e w' => PatR w w' [] (meetPR g ⟨t, l, r, b, off⟩ ⟨t', l', r', b', off'⟩) e) := by
  obtain ⟨la, lc, rfl⟩ := hl.len
  obtain ⟨a1, d1, rfl⟩ := h1.len
  obtain ⟨a2, d2, rfl⟩ := h2.len
  obtain ⟨a3, d3, rfl⟩ := h3.len
  obtain ⟨a4, d4, rfl⟩ := k1.len
  obtain ⟨a5, d5, rfl⟩ := k2.len
  obtain ⟨a6, d6, rfl⟩ := k3.len
  have hfin : (pairR 1 g ⟨t, l, r, b, off⟩ ⟨t', l', r', b', off'⟩ (off && off')).1.l.length ≤ 8192 ∧ (pairR 1 g ⟨t, l, r, b, off⟩ ⟨t', l', r', b', off'⟩ (off && off')).1.r.length ≤ 8192 ∧ (pairR 1 g ⟨t, l, r, b, off⟩ ⟨t', l', r', b', off'⟩ (off && off')).1.b.length ≤ 8192 := by
    have h0 : ∀ a b : List Run, (twoR 1 g a b).1.length ≤ 8192 := fun a b => by rw [← bothR_two]; exact bothR_len _ _ _
    unfold pairR
    split
    · exact ⟨by simp [zQP], by simp [zQP], by simp [zQP]⟩
    · split
      · exact ⟨by simp [zQP], by simp [zQP], by simp [zQP]⟩
      · exact ⟨h0 _ _, h0 _ _, h0 _ _⟩
  obtain ⟨R, hR⟩ : ∃ R, R = meetPR g ⟨t, l, r, b, off⟩ ⟨t', l', r', b', off'⟩ := ⟨_, rfl⟩
  rw [← hR]
  unfold meetPR emptyQ at hR
  simp only at hR
  refine calls_J (args := [g.ev (.slice la g.land.length lc), .agg ⟨[.int .i64 t, .slice a1 l.length d1, .slice a2 r.length d2, .slice a3 b.length d3, .bool off]⟩, .agg ⟨[.int .i64 t', .slice a4 l'.length d4, .slice a5 r'.length d5, .slice a6 b'.length d6, .bool off']⟩]) Try.func66 rfl Try.ntmps66 rfl ?_
  have H := Own.start w
  ((repeat refine JC.seq ?_); refine JC.region ?_)
  refine JL.box H rfl rfl rfl ?_
  intro b3 w1 H
  refine JL.box H rfl rfl rfl ?_
  intro b4 w2 H
  refine JL.box H rfl rfl rfl ?_
  intro b5 w3 H
  refine JL.alloc H z90 rfl ?_
  intro b6 w4 H
  refine JL.pure rfl rfl ?_
  refine JL.nil ?_
  ((repeat refine Ex.normal_block ?_); refine Ex.next ?_)
  ((repeat refine JC.seq ?_); refine JC.region ?_)
  refine JL.loadB 3 H rfl sh52 rfl rfl rfl ?_
  refine JL.loadB 2 H rfl sh90 rfl rfl rfl ?_
  refine JL.loadB 1 H rfl sh90 rfl rfl rfl ?_
  refine JL.fieldAddr rfl Try.underlying90 rfl sh4 rfl ?_
  refine JL.loadB 2 H rfl sh4 rfl rfl rfl ?_
  refine JL.pure rfl rfl ?_
  refine JL.cases 16 rfl ?_ ?_
  · intro h16
    (try simp only [Bool.not_eq_true', Bool.not_eq_false', decide_eq_true_eq, decide_eq_false_iff_not] at h16)
    refine JL.want rfl rfl ?_
    refine JL.fieldAddr rfl Try.underlying90 rfl sh4 rfl ?_
    refine JL.want rfl rfl ?_
    refine JL.loadB 1 H rfl sh4 rfl rfl rfl ?_
    refine JL.pure rfl rfl ?_
    refine JL.re 19 rfl (v' := .bool (off && off')) (by simp [h16]) ?_
    refine JL.call fb152 rfl rfl (pair_c 42 1 g (op_two1 g) _ t t' _ _ _ _ _ _ l r b l' r' b' off off' _ _ (hl.grow H.below) hcl (h1.grow H.below) (h2.grow H.below) (h3.grow H.below) (k1.grow H.below) (k2.grow H.below) (k3.grow H.below) c1 c2 c3 c4 c5 c6) ?_
    generalize pairR 1 g ⟨t, l, r, b, off⟩ ⟨t', l', r', b', off'⟩ (off && off') = Q at *
    rintro _ w5 ⟨va, vb, vc, rfl, K⟩
    obtain ⟨xa, ya, rfl⟩ := K.row_slice (j := 0) rfl
    obtain ⟨xb, yb, rfl⟩ := K.row_slice (j := 1) rfl
    obtain ⟨xc, yc, rfl⟩ := K.row_slice (j := 2) rfl
    have H := H.join K
    refine ⟨_, rfl, ?_⟩
    refine JL.pure rfl rfl ?_
    refine JL.pure rfl rfl ?_
    refine JL.pure rfl rfl ?_
    refine JL.alloc H z90 rfl ?_
    intro b8 w6 H
    refine JL.storeB 0 H rfl rfl sh90 rfl rfl rfl rfl rfl ?_
    intro w7 H
    refine JL.pure rfl rfl ?_
    refine JL.nil ?_
    ((repeat refine Ex.normal_block ?_); refine Ex.next ?_)
    ((repeat refine JC.seq ?_); refine JC.region ?_)
    refine JL.pure rfl rfl ?_
    refine JL.pure rfl rfl ?_
    refine JL.pure rfl rfl ?_
    refine JL.cases 25 rfl ?_ ?_
    · intro h25
      (try simp only [Bool.not_eq_true', Bool.not_eq_false', decide_eq_true_eq, decide_eq_false_iff_not] at h25)
      refine JL.want rfl rfl ?_
      refine JL.fieldAddr rfl Try.underlying90 rfl sh50 rfl ?_
      refine JL.want rfl rfl ?_
      refine JL.loadB 0 H rfl sh50 rfl rfl rfl ?_
      refine JL.want rfl rfl ?_
      refine JL.len rfl Try.underlying50 rfl ?_
      refine JL.want rfl rfl ?_
      refine JL.fieldAddr rfl Try.underlying90 rfl sh50 rfl ?_
      refine JL.want rfl rfl ?_
      refine JL.loadB 0 H rfl sh50 rfl rfl rfl ?_
      refine JL.want rfl rfl ?_
      refine JL.len rfl Try.underlying50 rfl ?_
      refine JL.want rfl rfl ?_
      refine JL.arith rfl (by unfold In64; omega) rfl ?_
      refine JL.want rfl rfl ?_
      refine JL.fieldAddr rfl Try.underlying90 rfl sh50 rfl ?_
      refine JL.want rfl rfl ?_
      refine JL.loadB 0 H rfl sh50 rfl rfl rfl ?_
      refine JL.want rfl rfl ?_
      refine JL.len rfl Try.underlying50 rfl ?_
      refine JL.want rfl rfl ?_
      refine JL.arith rfl (by unfold In64; omega) rfl ?_
      refine JL.want rfl rfl ?_
      refine JL.pure rfl rfl ?_
      refine JL.pure rfl rfl ?_
      refine JL.nil ?_
      ((repeat refine Ex.normal_block ?_); refine Ex.next ?_)
      ((repeat refine JC.seq ?_); refine JC.cond rfl ?_ ?_)
      · intro h38
        (try simp only [Bool.not_eq_true', Bool.not_eq_false', decide_eq_true_eq, decide_eq_false_iff_not] at h38)
        ((repeat refine JC.seq ?_); refine JC.region ?_)
        refine JL.build s90 rfl rfl ?_
        refine JL.storeB 4 H rfl rfl sh90 rfl rfl rfl rfl rfl ?_
        intro w8 H
        refine JL.pure rfl rfl ?_
        refine JL.nil ?_
        ((repeat refine Ex.normal_block ?_); refine Ex.next ?_)
        ((repeat refine JC.seq ?_); refine JC.ret ?_)
        (repeat (first | refine Ex.ret_then ?_ | refine Ex.ret_block ?_))
        refine Ex.ret2 rfl (.cell rfl sh90 (LdAt.of_block (H.get (i := 4) rfl).2 rfl)) (.tmp rfl) ?_
        have hst : R = (zQP, 7) := by
          rw [hR, if_pos]
          exact ⟨by simp_all, decide_eq_true (by omega)⟩
        rw [hst]
        exact PatR.zero ((((((((H.drop 0).drop 0).drop 0).drop 0).drop 0).drop 0).drop 0).drop 0) 7
      · intro h38
        (try simp only [Bool.not_eq_true', Bool.not_eq_false', decide_eq_true_eq, decide_eq_false_iff_not] at h38)
        ((repeat refine JC.seq ?_); refine JC.skip ?_)
        ((repeat refine Ex.normal_block ?_); refine Ex.next ?_)
        ((repeat refine JC.seq ?_); refine JC.region ?_)
        refine JL.loadB 0 H rfl sh90 rfl rfl rfl ?_
        refine JL.pure rfl rfl ?_
        refine JL.storeB 4 H rfl rfl sh90 rfl rfl rfl rfl rfl ?_
        intro w9 H
        refine JL.pure rfl rfl ?_
        refine JL.nil ?_
        ((repeat refine Ex.normal_block ?_); refine Ex.next ?_)
        ((repeat refine JC.seq ?_); refine JC.ret ?_)
        (repeat (first | refine Ex.ret_then ?_ | refine Ex.ret_block ?_))
        refine Ex.ret2 rfl (.cell rfl sh90 (LdAt.of_block (H.get (i := 4) rfl).2 rfl)) (.tmp rfl) ?_
        have hst : R = Q := by
          rw [hR, if_neg]
          rintro ⟨e1, e2⟩
          have e3 := of_decide_eq_true e2
          simp_all
        rw [hst]
        exact ⟨_, _, _, rfl, (((((H.drop 0).drop 3).drop 3).drop 3).drop 3)⟩
    · intro h25
      (try simp only [Bool.not_eq_true', Bool.not_eq_false', decide_eq_true_eq, decide_eq_false_iff_not] at h25)
      refine JL.pass rfl rfl rfl rfl ?_
      refine JL.pass rfl rfl rfl rfl ?_
      refine JL.pass rfl rfl rfl rfl ?_
      refine JL.pass rfl rfl rfl rfl ?_
      refine JL.pass rfl rfl rfl rfl ?_
      refine JL.pass rfl rfl rfl rfl ?_
      refine JL.pass rfl rfl rfl rfl ?_
      refine JL.pass rfl rfl rfl rfl ?_
      refine JL.pass rfl rfl rfl rfl ?_
      refine JL.pass rfl rfl rfl rfl ?_
      refine JL.pass rfl rfl rfl rfl ?_
      refine JL.pass rfl rfl rfl rfl ?_
      refine JL.pure rfl rfl ?_
      refine JL.nil ?_
      ((repeat refine Ex.normal_block ?_); refine Ex.next ?_)
      ((repeat refine JC.seq ?_); refine JC.cond rfl (fun h => by cases h) (fun _ => ?_))
      ((repeat refine JC.seq ?_); refine JC.skip ?_)
      ((repeat refine Ex.normal_block ?_); refine Ex.next ?_)
      ((repeat refine JC.seq ?_); refine JC.region ?_)
      refine JL.loadB 0 H rfl sh90 rfl rfl rfl ?_
      refine JL.pure rfl rfl ?_
      refine JL.storeB 4 H rfl rfl sh90 rfl rfl rfl rfl rfl ?_
      intro w10 H
      refine JL.pure rfl rfl ?_
      refine JL.nil ?_
      ((repeat refine Ex.normal_block ?_); refine Ex.next ?_)
      ((repeat refine JC.seq ?_); refine JC.ret ?_)
      (repeat (first | refine Ex.ret_then ?_ | refine Ex.ret_block ?_))
      refine Ex.ret2 rfl (.cell rfl sh90 (LdAt.of_block (H.get (i := 4) rfl).2 rfl)) (.tmp rfl) ?_
      have hst : R = Q := by
        rw [hR, if_neg]
        rintro ⟨e1, e2⟩
        have e3 := of_decide_eq_true e2
        simp_all
      rw [hst]
      exact ⟨_, _, _, rfl, (((((H.drop 0).drop 3).drop 3).drop 3).drop 3)⟩
  · intro h16
    (try simp only [Bool.not_eq_true', Bool.not_eq_false', decide_eq_true_eq, decide_eq_false_iff_not] at h16)
    refine JL.pass rfl rfl rfl rfl ?_
    refine JL.pass rfl rfl rfl rfl ?_
    refine JL.pure rfl rfl ?_
    refine JL.re 19 rfl (v' := .bool (off && off')) (by simp [h16]) ?_
    refine JL.call fb152 rfl rfl (pair_c 42 1 g (op_two1 g) _ t t' _ _ _ _ _ _ l r b l' r' b' off off' _ _ (hl.grow H.below) hcl (h1.grow H.below) (h2.grow H.below) (h3.grow H.below) (k1.grow H.below) (k2.grow H.below) (k3.grow H.below) c1 c2 c3 c4 c5 c6) ?_
    generalize pairR 1 g ⟨t, l, r, b, off⟩ ⟨t', l', r', b', off'⟩ (off && off') = Q at *
    rintro _ w11 ⟨va, vb, vc, rfl, K⟩
    obtain ⟨xa, ya, rfl⟩ := K.row_slice (j := 0) rfl
    obtain ⟨xb, yb, rfl⟩ := K.row_slice (j := 1) rfl
    obtain ⟨xc, yc, rfl⟩ := K.row_slice (j := 2) rfl
    have H := H.join K
    refine ⟨_, rfl, ?_⟩
    refine JL.pure rfl rfl ?_
    refine JL.pure rfl rfl ?_
    refine JL.pure rfl rfl ?_
    refine JL.alloc H z90 rfl ?_
    intro b8_12 w12 H
    refine JL.storeB 0 H rfl rfl sh90 rfl rfl rfl rfl rfl ?_
    intro w13 H
    refine JL.pure rfl rfl ?_
    refine JL.nil ?_
    ((repeat refine Ex.normal_block ?_); refine Ex.next ?_)
    ((repeat refine JC.seq ?_); refine JC.region ?_)
    refine JL.pure rfl rfl ?_
    refine JL.pure rfl rfl ?_
    refine JL.pure rfl rfl ?_
    refine JL.cases 25 rfl ?_ ?_
    · intro h25
      (try simp only [Bool.not_eq_true', Bool.not_eq_false', decide_eq_true_eq, decide_eq_false_iff_not] at h25)
      refine JL.want rfl rfl ?_
      refine JL.fieldAddr rfl Try.underlying90 rfl sh50 rfl ?_
      refine JL.want rfl rfl ?_
      refine JL.loadB 0 H rfl sh50 rfl rfl rfl ?_
      refine JL.want rfl rfl ?_
      refine JL.len rfl Try.underlying50 rfl ?_
      refine JL.want rfl rfl ?_
      refine JL.fieldAddr rfl Try.underlying90 rfl sh50 rfl ?_
      refine JL.want rfl rfl ?_
      refine JL.loadB 0 H rfl sh50 rfl rfl rfl ?_
      refine JL.want rfl rfl ?_
      refine JL.len rfl Try.underlying50 rfl ?_
      refine JL.want rfl rfl ?_
      refine JL.arith rfl (by unfold In64; omega) rfl ?_
      refine JL.want rfl rfl ?_
      refine JL.fieldAddr rfl Try.underlying90 rfl sh50 rfl ?_
      refine JL.want rfl rfl ?_
      refine JL.loadB 0 H rfl sh50 rfl rfl rfl ?_
      refine JL.want rfl rfl ?_
      refine JL.len rfl Try.underlying50 rfl ?_
      refine JL.want rfl rfl ?_
      refine JL.arith rfl (by unfold In64; omega) rfl ?_
      refine JL.want rfl rfl ?_
      refine JL.pure rfl rfl ?_
      refine JL.pure rfl rfl ?_
      refine JL.nil ?_
      ((repeat refine Ex.normal_block ?_); refine Ex.next ?_)
      ((repeat refine JC.seq ?_); refine JC.cond rfl ?_ ?_)
      · intro h38
        (try simp only [Bool.not_eq_true', Bool.not_eq_false', decide_eq_true_eq, decide_eq_false_iff_not] at h38)
        ((repeat refine JC.seq ?_); refine JC.region ?_)
        refine JL.build s90 rfl rfl ?_
        refine JL.storeB 4 H rfl rfl sh90 rfl rfl rfl rfl rfl ?_
        intro w14 H
        refine JL.pure rfl rfl ?_
        refine JL.nil ?_
        ((repeat refine Ex.normal_block ?_); refine Ex.next ?_)
        ((repeat refine JC.seq ?_); refine JC.ret ?_)
        (repeat (first | refine Ex.ret_then ?_ | refine Ex.ret_block ?_))
        refine Ex.ret2 rfl (.cell rfl sh90 (LdAt.of_block (H.get (i := 4) rfl).2 rfl)) (.tmp rfl) ?_
        have hst : R = (zQP, 7) := by
          rw [hR, if_pos]
          exact ⟨by simp_all, decide_eq_true (by omega)⟩
        rw [hst]
        exact PatR.zero ((((((((H.drop 0).drop 0).drop 0).drop 0).drop 0).drop 0).drop 0).drop 0) 7
      · intro h38
        (try simp only [Bool.not_eq_true', Bool.not_eq_false', decide_eq_true_eq, decide_eq_false_iff_not] at h38)
        ((repeat refine JC.seq ?_); refine JC.skip ?_)
        ((repeat refine Ex.normal_block ?_); refine Ex.next ?_)
        ((repeat refine JC.seq ?_); refine JC.region ?_)
        refine JL.loadB 0 H rfl sh90 rfl rfl rfl ?_
        refine JL.pure rfl rfl ?_
        refine JL.storeB 4 H rfl rfl sh90 rfl rfl rfl rfl rfl ?_
        intro w15 H
        refine JL.pure rfl rfl ?_
        refine JL.nil ?_
        ((repeat refine Ex.normal_block ?_); refine Ex.next ?_)
        ((repeat refine JC.seq ?_); refine JC.ret ?_)
        (repeat (first | refine Ex.ret_then ?_ | refine Ex.ret_block ?_))
        refine Ex.ret2 rfl (.cell rfl sh90 (LdAt.of_block (H.get (i := 4) rfl).2 rfl)) (.tmp rfl) ?_
        have hst : R = Q := by
          rw [hR, if_neg]
          rintro ⟨e1, e2⟩
          have e3 := of_decide_eq_true e2
          simp_all
        rw [hst]
        exact ⟨_, _, _, rfl, (((((H.drop 0).drop 3).drop 3).drop 3).drop 3)⟩
    · intro h25
      (try simp only [Bool.not_eq_true', Bool.not_eq_false', decide_eq_true_eq, decide_eq_false_iff_not] at h25)
      refine JL.pass rfl rfl rfl rfl ?_
      refine JL.pass rfl rfl rfl rfl ?_
      refine JL.pass rfl rfl rfl rfl ?_
      refine JL.pass rfl rfl rfl rfl ?_
      refine JL.pass rfl rfl rfl rfl ?_
      refine JL.pass rfl rfl rfl rfl ?_
      refine JL.pass rfl rfl rfl rfl ?_
      refine JL.pass rfl rfl rfl rfl ?_
      refine JL.pass rfl rfl rfl rfl ?_
      refine JL.pass rfl rfl rfl rfl ?_
      refine JL.pass rfl rfl rfl rfl ?_
      refine JL.pass rfl rfl rfl rfl ?_
      refine JL.pure rfl rfl ?_
      refine JL.nil ?_
      ((repeat refine Ex.normal_block ?_); refine Ex.next ?_)
      ((repeat refine JC.seq ?_); refine JC.cond rfl (fun h => by cases h) (fun _ => ?_))
      ((repeat refine JC.seq ?_); refine JC.skip ?_)
      ((repeat refine Ex.normal_block ?_); refine Ex.next ?_)
      ((repeat refine JC.seq ?_); refine JC.region ?_)
      refine JL.loadB 0 H rfl sh90 rfl rfl rfl ?_
      refine JL.pure rfl rfl ?_
      refine JL.storeB 4 H rfl rfl sh90 rfl rfl rfl rfl rfl ?_
      intro w16 H
      refine JL.pure rfl rfl ?_
      refine JL.nil ?_
      ((repeat refine Ex.normal_block ?_); refine Ex.next ?_)
      ((repeat refine JC.seq ?_); refine JC.ret ?_)
      (repeat (first | refine Ex.ret_then ?_ | refine Ex.ret_block ?_))
      refine Ex.ret2 rfl (.cell rfl sh90 (LdAt.of_block (H.get (i := 4) rfl).2 rfl)) (.tmp rfl) ?_
      have hst : R = Q := by
        rw [hR, if_neg]
        rintro ⟨e1, e2⟩
        have e3 := of_decide_eq_true e2
        simp_all
      rw [hst]
      exact ⟨_, _, _, rfl, (((((H.drop 0).drop 3).drop 3).drop 3).drop 3)⟩
theorem same114_c (t t' : Int) (lf l2 rf r2 bf b2 : Value) (l r b l' r' b' : List Run) (off off' : Bool) (w : World) (h1 : SlR w lf l) (h2 : SlR w rf r) (h3 : SlR w bf b) (k1 : SlR w l2 l') (k2 : SlR w r2 r') (k3 : SlR w b2 b') :
    Pur Try.prog 114 #[Patch.ev ⟨t, lf, l, rf, r, bf, b, off⟩, Patch.ev ⟨t', l2, l', r2, r', b2, b', off'⟩] w (.bool (decide (t = t' ∧ l = l' ∧ r = r' ∧ b = b' ∧ off = off'))) := by
  obtain ⟨a1, d1, rfl⟩ := h1.len
  obtain ⟨a2, d2, rfl⟩ := h2.len
  obtain ⟨a3, d3, rfl⟩ := h3.len
  obtain ⟨a4, d4, rfl⟩ := k1.len
  obtain ⟨a5, d5, rfl⟩ := k2.len
  obtain ⟨a6, d6, rfl⟩ := k3.len
  refine pur_J (args := [.agg ⟨[.int .i64 t, .slice a1 l.length d1, .slice a2 r.length d2, .slice a3 b.length d3, .bool off]⟩, .agg ⟨[.int .i64 t', .slice a4 l'.length d4, .slice a5 r'.length d5, .slice a6 b'.length d6, .bool off']⟩]) Try.func114 rfl Try.ntmps114 rfl ?_
  have H := Own.start w
  ((repeat refine JC.seq ?_); refine JC.region ?_)
  refine JL.box H rfl rfl rfl ?_
  intro b2 w1 H
  refine JL.box H rfl rfl rfl ?_
  intro b3 w2 H
  refine JL.pure rfl rfl ?_
  refine JL.nil ?_
  ((repeat refine Ex.normal_block ?_); refine Ex.next ?_)
  ((repeat refine JC.seq ?_); refine JC.region ?_)
  refine JL.fieldAddr rfl Try.underlying90 rfl sh50 rfl ?_
  refine JL.loadB 1 H rfl sh50 rfl rfl rfl ?_
  refine JL.fieldAddr rfl Try.underlying90 rfl sh50 rfl ?_
  refine JL.loadB 0 H rfl sh50 rfl rfl rfl ?_
  refine JL.callP H fb67 rfl rfl (same_c _ _ l l' _ (h1.grow H.below) (k1.grow H.below)) ?_
  intro w3 H _
  refine JL.pure rfl rfl ?_
  refine JL.nil ?_
  ((repeat refine Ex.normal_block ?_); refine Ex.next ?_)
  ((repeat refine JC.seq ?_); refine JC.region ?_)
  refine JL.fieldAddr rfl Try.underlying90 rfl sh50 rfl ?_
  refine JL.loadB 1 H rfl sh50 rfl rfl rfl ?_
  refine JL.fieldAddr rfl Try.underlying90 rfl sh50 rfl ?_
  refine JL.loadB 0 H rfl sh50 rfl rfl rfl ?_
  refine JL.callP H fb67 rfl rfl (same_c _ _ r r' _ (h2.grow H.below) (k2.grow H.below)) ?_
  intro w4 H _
  refine JL.pure rfl rfl ?_
  refine JL.nil ?_
  ((repeat refine Ex.normal_block ?_); refine Ex.next ?_)
  ((repeat refine JC.seq ?_); refine JC.region ?_)
  refine JL.fieldAddr rfl Try.underlying90 rfl sh50 rfl ?_
  refine JL.loadB 1 H rfl sh50 rfl rfl rfl ?_
  refine JL.fieldAddr rfl Try.underlying90 rfl sh50 rfl ?_
  refine JL.loadB 0 H rfl sh50 rfl rfl rfl ?_
  refine JL.callP H fb67 rfl rfl (same_c _ _ b b' _ (h3.grow H.below) (k3.grow H.below)) ?_
  intro w5 H _
  refine JL.pure rfl rfl ?_
  refine JL.nil ?_
  ((repeat refine Ex.normal_block ?_); refine Ex.next ?_)
  ((repeat refine JC.seq ?_); refine JC.region ?_)
  refine JL.pure rfl rfl ?_
  refine JL.pure rfl rfl ?_
  refine JL.cases 24 rfl ?_ ?_
  · intro h24
    (try simp only [Bool.not_eq_true', Bool.not_eq_false', decide_eq_true_eq, decide_eq_false_iff_not] at h24)
    refine JL.want rfl rfl ?_
    refine JL.pure rfl rfl ?_
    refine JL.pure rfl rfl ?_
    refine JL.pure rfl rfl ?_
    refine JL.cases 27 rfl ?_ ?_
    · intro h27
      (try simp only [Bool.not_eq_true', Bool.not_eq_false', decide_eq_true_eq, decide_eq_false_iff_not] at h27)
      refine JL.want rfl rfl ?_
      refine JL.pure rfl rfl ?_
      refine JL.pure rfl rfl ?_
      refine JL.pure rfl rfl ?_
      refine JL.cases 30 rfl ?_ ?_
      · intro h30
        (try simp only [Bool.not_eq_true', Bool.not_eq_false', decide_eq_true_eq, decide_eq_false_iff_not] at h30)
        refine JL.want rfl rfl ?_
        refine JL.fieldAddr rfl Try.underlying90 rfl sh3 rfl ?_
        refine JL.want rfl rfl ?_
        refine JL.loadB 1 H rfl sh3 rfl rfl rfl ?_
        refine JL.want rfl rfl ?_
        refine JL.fieldAddr rfl Try.underlying90 rfl sh3 rfl ?_
        refine JL.want rfl rfl ?_
        refine JL.loadB 0 H rfl sh3 rfl rfl rfl ?_
        refine JL.want rfl rfl ?_
        refine JL.pure rfl rfl ?_
        refine JL.pure rfl rfl ?_
        refine JL.pure rfl rfl ?_
        refine JL.cases 37 rfl ?_ ?_
        · intro h37
          (try simp only [Bool.not_eq_true', Bool.not_eq_false', decide_eq_true_eq, decide_eq_false_iff_not] at h37)
          refine JL.want rfl rfl ?_
          refine JL.fieldAddr rfl Try.underlying90 rfl sh4 rfl ?_
          refine JL.want rfl rfl ?_
          refine JL.loadB 1 H rfl sh4 rfl rfl rfl ?_
          refine JL.want rfl rfl ?_
          refine JL.fieldAddr rfl Try.underlying90 rfl sh4 rfl ?_
          refine JL.want rfl rfl ?_
          refine JL.loadB 0 H rfl sh4 rfl rfl rfl ?_
          refine JL.want rfl rfl ?_
          refine JL.eqs rfl rfl (eqBool 4 Try.underlying4 _ _) rfl ?_
          refine JL.pure rfl rfl ?_
          refine JL.pure rfl rfl ?_
          refine JL.nil ?_
          ((repeat refine Ex.normal_block ?_); refine Ex.next ?_)
          ((repeat refine JC.seq ?_); refine JC.ret ?_)
          (repeat (first | refine Ex.ret_then ?_ | refine Ex.ret_block ?_))
          refine Ex.ret1 rfl (.tmp rfl) ⟨by cases off <;> cases off' <;> simp_all [and_assoc], H.below⟩
        · intro h37
          (try simp only [Bool.not_eq_true', Bool.not_eq_false', decide_eq_true_eq, decide_eq_false_iff_not] at h37)
          refine JL.pass rfl rfl rfl rfl ?_
          refine JL.pass rfl rfl rfl rfl ?_
          refine JL.pass rfl rfl rfl rfl ?_
          refine JL.pass rfl rfl rfl rfl ?_
          refine JL.pass rfl rfl rfl rfl ?_
          refine JL.pure rfl rfl ?_
          refine JL.pure rfl rfl ?_
          refine JL.nil ?_
          ((repeat refine Ex.normal_block ?_); refine Ex.next ?_)
          ((repeat refine JC.seq ?_); refine JC.ret ?_)
          (repeat (first | refine Ex.ret_then ?_ | refine Ex.ret_block ?_))
          refine Ex.ret1 rfl (.tmp rfl) ⟨by cases off <;> cases off' <;> simp_all [and_assoc], H.below⟩
      · intro h30
        (try simp only [Bool.not_eq_true', Bool.not_eq_false', decide_eq_true_eq, decide_eq_false_iff_not] at h30)
        refine JL.pass rfl rfl rfl rfl ?_
        refine JL.pass rfl rfl rfl rfl ?_
        refine JL.pass rfl rfl rfl rfl ?_
        refine JL.pass rfl rfl rfl rfl ?_
        refine JL.pass rfl rfl rfl rfl ?_
        refine JL.pure rfl rfl ?_
        refine JL.pure rfl rfl ?_
        refine JL.pass rfl rfl rfl rfl ?_
        refine JL.pass rfl rfl rfl rfl ?_
        refine JL.pass rfl rfl rfl rfl ?_
        refine JL.pass rfl rfl rfl rfl ?_
        refine JL.pass rfl rfl rfl rfl ?_
        refine JL.pure rfl rfl ?_
        refine JL.pure rfl rfl ?_
        refine JL.nil ?_
        ((repeat refine Ex.normal_block ?_); refine Ex.next ?_)
        ((repeat refine JC.seq ?_); refine JC.ret ?_)
        (repeat (first | refine Ex.ret_then ?_ | refine Ex.ret_block ?_))
        refine Ex.ret1 rfl (.tmp rfl) ⟨by cases off <;> cases off' <;> simp_all [and_assoc], H.below⟩
    · intro h27
      (try simp only [Bool.not_eq_true', Bool.not_eq_false', decide_eq_true_eq, decide_eq_false_iff_not] at h27)
      refine JL.pass rfl rfl rfl rfl ?_
      refine JL.pure rfl rfl ?_
      refine JL.pure rfl rfl ?_
      refine JL.pass rfl rfl rfl rfl ?_
      refine JL.pass rfl rfl rfl rfl ?_
      refine JL.pass rfl rfl rfl rfl ?_
      refine JL.pass rfl rfl rfl rfl ?_
      refine JL.pass rfl rfl rfl rfl ?_
      refine JL.pure rfl rfl ?_
      refine JL.pure rfl rfl ?_
      refine JL.pass rfl rfl rfl rfl ?_
      refine JL.pass rfl rfl rfl rfl ?_
      refine JL.pass rfl rfl rfl rfl ?_
      refine JL.pass rfl rfl rfl rfl ?_
      refine JL.pass rfl rfl rfl rfl ?_
      refine JL.pure rfl rfl ?_
      refine JL.pure rfl rfl ?_
      refine JL.nil ?_
      ((repeat refine Ex.normal_block ?_); refine Ex.next ?_)
      ((repeat refine JC.seq ?_); refine JC.ret ?_)
      (repeat (first | refine Ex.ret_then ?_ | refine Ex.ret_block ?_))
      refine Ex.ret1 rfl (.tmp rfl) ⟨by cases off <;> cases off' <;> simp_all [and_assoc], H.below⟩
  · intro h24
    (try simp only [Bool.not_eq_true', Bool.not_eq_false', decide_eq_true_eq, decide_eq_false_iff_not] at h24)
    refine JL.pass rfl rfl rfl rfl ?_
    refine JL.pure rfl rfl ?_
    refine JL.pure rfl rfl ?_
    refine JL.pass rfl rfl rfl rfl ?_
    refine JL.pure rfl rfl ?_
    refine JL.pure rfl rfl ?_
    refine JL.pass rfl rfl rfl rfl ?_
    refine JL.pass rfl rfl rfl rfl ?_
    refine JL.pass rfl rfl rfl rfl ?_
    refine JL.pass rfl rfl rfl rfl ?_
    refine JL.pass rfl rfl rfl rfl ?_
    refine JL.pure rfl rfl ?_
    refine JL.pure rfl rfl ?_
    refine JL.pass rfl rfl rfl rfl ?_
    refine JL.pass rfl rfl rfl rfl ?_
    refine JL.pass rfl rfl rfl rfl ?_
    refine JL.pass rfl rfl rfl rfl ?_
    refine JL.pass rfl rfl rfl rfl ?_
    refine JL.pure rfl rfl ?_
    refine JL.pure rfl rfl ?_
    refine JL.nil ?_
    ((repeat refine Ex.normal_block ?_); refine Ex.next ?_)
    ((repeat refine JC.seq ?_); refine JC.ret ?_)
    (repeat (first | refine Ex.ret_then ?_ | refine Ex.ret_block ?_))
    refine Ex.ret1 rfl (.tmp rfl) ⟨by cases off <;> cases off' <;> simp_all [and_assoc], H.below⟩
end Go.J

namespace Go.J
open Go.RowKit Go.Proofs
set_option maxRecDepth 8000
set_option linter.unusedSimpArgs false
set_option linter.unusedVariables false
/-! drift: where a patch is -/
theorem cellsR_right {g : Grid} (hg : g.ok = true) {r : List Run} (hr : rightB g.W g.H r = true) (c : Cell) : c ∈ (cellsR g r).1 ↔ hasB r c = true := by
  unfold cellsR
  rw [if_pos (checked_one hg hr)]
  exact mem_cellsAll
theorem where113_c (g : Grid) (lv : Value) (t : Int) (lf rf bf : Value) (l r b : List Run) (off : Bool) (w : World) (hsm : g.ok = true → g.W * g.H ≤ 4096) (hl : SlR w lv g.land) (hcl : capOK lv) (h1 : SlR w lf l) (h2 : SlR w rf r) (h3 : SlR w bf b)
    (c1 : capOK lf) (c2 : capOK rf) (c3 : capOK bf) :
    Calls Try.prog 113 #[g.ev lv, Patch.ev ⟨t, lf, l, rf, r, bf, b, off⟩] w (fun e w' => ResR w w' [] (whereR g ⟨t, l, r, b, off⟩) e) := by
  obtain ⟨la, lc, rfl⟩ := hl.len
  obtain ⟨a1, d1, rfl⟩ := h1.len
  obtain ⟨a2, d2, rfl⟩ := h2.len
  obtain ⟨a3, d3, rfl⟩ := h3.len
  obtain ⟨R, hR⟩ : ∃ R, R = whereR g ⟨t, l, r, b, off⟩ := ⟨_, rfl⟩
  rw [← hR]
  unfold whereR at hR
  simp only at hR
  refine calls_J (args := [g.ev (.slice la g.land.length lc), .agg ⟨[.int .i64 t, .slice a1 l.length d1, .slice a2 r.length d2, .slice a3 b.length d3, .bool off]⟩]) Try.func113 rfl Try.ntmps113 rfl ?_
  have H := Own.start w
  ((repeat refine JC.seq ?_); refine JC.region ?_)
  refine JL.box H rfl rfl rfl ?_
  intro b2 w1 H
  refine JL.box H rfl rfl rfl ?_
  intro b3 w2 H
  refine JL.pure rfl rfl ?_
  refine JL.pure rfl rfl ?_
  refine JL.nil ?_
  ((repeat refine Ex.normal_block ?_); refine Ex.next ?_)
  ((repeat refine JC.seq ?_); refine JC.region ?_)
  refine JL.loadB 1 H rfl sh52 rfl rfl rfl ?_
  refine JL.loadB 0 H rfl sh90 rfl rfl rfl ?_
  refine JL.callP H fb149 rfl rfl (checkPatch_c g _ t _ _ _ l r b off _ (hl.grow H.below) hcl (h1.grow H.below) (h2.grow H.below) (h3.grow H.below) c1 c2 c3) ?_
  intro w3 H _
  refine JL.re 14 rfl (v' := .int .i64 (if patR g ⟨t, l, r, b, off⟩ = true then 0 else 2)) rfl ?_
  refine JL.pure rfl rfl ?_
  refine JL.nil ?_
  ((repeat refine Ex.normal_block ?_); refine Ex.next ?_)
  ((repeat refine JC.seq ?_); refine JC.region ?_)
  refine JL.pure rfl rfl ?_
  refine JL.pure rfl rfl ?_
  refine JL.nil ?_
  ((repeat refine Ex.normal_block ?_); refine Ex.next ?_)
  ((repeat refine JC.seq ?_); refine JC.cond rfl ?_ ?_)
  · intro h16
    (try simp only [Bool.not_eq_true', Bool.not_eq_false', decide_eq_true_eq, decide_eq_false_iff_not] at h16)
    have hpf : patR g ⟨t, l, r, b, off⟩ = false := by
      cases hc : patR g ⟨t, l, r, b, off⟩ with
      | false => rfl
      | true => exfalso; rw [hc] at h16; simp at h16
    ((repeat refine JC.seq ?_); refine JC.region ?_)
    refine JL.pure rfl rfl ?_
    refine JL.pure rfl rfl ?_
    refine JL.pure rfl rfl ?_
    refine JL.nil ?_
    ((repeat refine Ex.normal_block ?_); refine Ex.next ?_)
    ((repeat refine JC.seq ?_); refine JC.ret ?_)
    (repeat (first | refine Ex.ret_then ?_ | refine Ex.ret_block ?_))
    refine Ex.ret2 rfl (.tmp rfl) (.tmp rfl) ?_
    simp only [hR, hpf, Bool.false_eq_true, if_false]
    exact ⟨_, rfl, (((H.drop 0).drop 0).nilRow 140 3)⟩
  · intro h16
    (try simp only [Bool.not_eq_true', Bool.not_eq_false', decide_eq_true_eq, decide_eq_false_iff_not] at h16)
    have hp : patR g ⟨t, l, r, b, off⟩ = true := by
      cases hc : patR g ⟨t, l, r, b, off⟩ with
      | true => rfl
      | false => exfalso; rw [hc] at h16; simp at h16
    obtain ⟨hg, _, ⟨e1, e2, e3⟩, _⟩ := patR_ok hsm hp
    simp only at e1 e2 e3
    rw [if_pos hp] at hR
    ((repeat refine JC.seq ?_); refine JC.skip ?_)
    ((repeat refine Ex.normal_block ?_); refine Ex.next ?_)
    ((repeat refine JC.seq ?_); refine JC.region ?_)
    refine JL.makeMap Cell.ev Value.bool H rfl ?_
    intro β w1 H
    refine JL.pure rfl rfl ?_
    refine JL.nil ?_
    ((repeat refine Ex.normal_block ?_); refine Ex.next ?_)
    ((repeat refine JC.seq ?_); refine JC.region ?_)
    refine JL.loadB 1 H rfl sh90 rfl rfl rfl ?_
    refine JL.callP H fb202 rfl rfl (ofD_c t a1 a2 a3 l.length r.length b.length d1 d2 d3 off _) ?_
    intro w4 H _
    refine JL.pure rfl rfl ?_
    refine JL.nil ?_
    ((repeat refine Ex.normal_block ?_); refine Ex.next ?_)
    ((repeat refine JC.seq ?_); refine JC.block ?_)
    ((repeat refine JC.seq ?_); refine JC.loop (ι := Nat × List (Cell × Bool)) (fun x => [(2, .pointer (some ⟨b2, 0, none⟩)), (7, .map (some β)), (20, .agg ⟨[.slice a1 l.length d1, .slice a2 r.length d2, .slice a3 b.length d3]⟩), (21, .int .i64 x.1)])
      (fun x wr => x.1 ≤ 3 ∧ (AllT x.2 ∧ ∀ c, setR x.2 c = true ↔ ∃ j, j < x.1 ∧ hasB (nth3 l r b j) c = true) ∧ Own w wr [setM β x.2, blk b3 (.cells ⟨[.int .i64 t, .slice a1 l.length d1, .slice a2 r.length d2, .slice a3 b.length d3, .bool off]⟩ 90 (0, 0)), blk b2 (.cells ⟨[.int .i64 g.W, .int .i64 g.H, .int .i64 g.S, .slice la g.land.length lc]⟩ 52 (0, 0))]) (fun x => 3 - x.1) (0, []) ?_ ?_ ?_)
    · exact ⟨rfl, rfl, rfl, rfl, trivial⟩
    · exact ⟨Nat.zero_le _, ⟨(fun p hp => by cases hp), fun c => by simp [setR, mget]⟩, H⟩
    · rintro ⟨k, m⟩ wr ⟨hk, ⟨hT, hS⟩, H⟩
      simp only at hk hT hS H
      show JC _ _ _ _ [(2, .pointer (some ⟨b2, 0, none⟩)), (7, .map (some β)), (20, .agg ⟨[.slice a1 l.length d1, .slice a2 r.length d2, .slice a3 b.length d3]⟩), (21, .int .i64 k)] _
      ((repeat refine JC.seq ?_); refine JC.region ?_)
      refine JL.pure rfl rfl ?_
      refine JL.nil ?_
      ((repeat refine Ex.normal_block ?_); refine Ex.next ?_)
      ((repeat refine JC.seq ?_); refine JC.cond rfl ?_ ?_)
      · intro h22
        (try simp only [Bool.not_eq_true', Bool.not_eq_false', decide_eq_true_eq, decide_eq_false_iff_not] at h22)
        have h22 : k < 3 := by omega
        obtain ⟨za, zc, hz, hzs, hzr⟩ : ∃ za zc, [Value.slice a1 l.length d1, .slice a2 r.length d2, .slice a3 b.length d3][k]? = some (.slice za (nth3 l r b k).length zc) ∧ SlR w (.slice za (nth3 l r b k).length zc) (nth3 l r b k) ∧ rightB g.W g.H (nth3 l r b k) = true := by
          rcases (show k = 0 ∨ k = 1 ∨ k = 2 by omega) with rfl | rfl | rfl
          · exact ⟨_, _, rfl, h1, e1⟩
          · exact ⟨_, _, rfl, h2, e2⟩
          · exact ⟨_, _, rfl, h3, e3⟩
        ((repeat refine JC.seq ?_); refine JC.skip ?_)
        ((repeat refine Ex.normal_block ?_); refine Ex.next ?_)
        ((repeat refine JC.seq ?_); refine JC.block ?_)
        ((repeat refine JC.seq ?_); refine JC.region ?_)
        refine JL.index1 k rfl rfl Try.underlying292 sh50 rfl h22 hz rfl ?_
        refine JL.pure rfl rfl ?_
        refine JL.nil ?_
        ((repeat refine Ex.normal_block ?_); refine Ex.next ?_)
        ((repeat refine JC.seq ?_); refine JC.region ?_)
        refine JL.pure rfl rfl ?_
        refine JL.loadB 2 H rfl sh52 rfl rfl rfl ?_
        refine JL.pure rfl rfl ?_
        refine JL.call fb203 rfl rfl (setAdd_c g _ (.slice za (nth3 l r b k).length zc) (nth3 l r b k) _ H (fun w' m' h => hl.grow h.below) (fun w' m' h => hzs.grow h.below)) ?_
        rintro _ w5 ⟨rfl, m9, H, hm9, _, hT9⟩
        refine ⟨_, rfl, ?_⟩
        refine JL.nil ?_
        ((repeat refine Ex.normal_block ?_); refine Ex.next ?_)
        ((repeat refine JC.seq ?_); refine JC.region ?_)
        refine JL.arith rfl (by unfold In64; omega) rfl ?_
        refine JL.pure rfl rfl ?_
        refine JL.nil ?_
        (repeat refine Ex.normal_block ?_)
        refine Ex.again (k + 1, m9) ⟨rfl, rfl, rfl, rfl, trivial⟩ ⟨by simp only; omega, ⟨hT9 hT, fun c => ?_⟩, H⟩ (by simp only; omega)
        simp only
        rw [hm9 c, cellsR_right hg hzr, hS c]
        constructor
        · rintro (⟨j, hj, hh⟩ | hh)
          · exact ⟨j, by omega, hh⟩
          · exact ⟨k, by omega, hh⟩
        · rintro ⟨j, hj, hh⟩
          rcases Nat.lt_or_ge j k with h | h
          · exact .inl ⟨j, h, hh⟩
          · obtain rfl : j = k := by omega
            exact .inr hh
      · intro h22
        (try simp only [Bool.not_eq_true', Bool.not_eq_false', decide_eq_true_eq, decide_eq_false_iff_not] at h22)
        have hk3 : k = 3 := by omega
        subst hk3
        have hU : ∀ c, setR m c = true ↔ ((hasB l c || hasB r c) || hasB b c) = true := fun c => by
          rw [hS c]
          simp only [Bool.or_eq_true]
          constructor
          · rintro ⟨j, hj, hh⟩
            rcases (show j = 0 ∨ j = 1 ∨ j = 2 by omega) with rfl | rfl | rfl
            · exact .inl (.inl hh)
            · exact .inl (.inr hh)
            · exact .inr hh
          · rintro ((hh | hh) | hh)
            · exact ⟨0, by omega, hh⟩
            · exact ⟨1, by omega, hh⟩
            · exact ⟨2, by omega, hh⟩
        have hin : ∀ c, ((hasB l c || hasB r c) || hasB b c) = true → inG g c := fun c hc => by
          simp only [Bool.or_eq_true] at hc
          rcases hc with (hc | hc) | hc
          · exact canon_inG (canon_of_right e1) hc
          · exact canon_inG (canon_of_right e2) hc
          · exact canon_inG (canon_of_right e3) hc
        ((repeat refine JC.seq ?_); refine JC.exit ?_)
        (repeat (first | refine Ex.exit_then ?_ | refine Ex.exit_miss (by decide) ?_))
        refine Ex.exit_hit ?_
        ((repeat refine Ex.normal_block ?_); refine Ex.next ?_)
        ((repeat refine JC.seq ?_); refine JC.region ?_)
        refine JL.pure rfl rfl ?_
        refine JL.nil ?_
        ((repeat refine Ex.normal_block ?_); refine Ex.next ?_)
        ((repeat refine JC.seq ?_); refine JC.region ?_)
        refine JL.pure rfl rfl ?_
        obtain ⟨es, clock, hM, H⟩ := H.openM (i := 0) rfl
        have hnd := hM.nodup
        have hml := keys_small hg hnd hT (fun c hc => hin c ((hU c).1 hc))
        refine JL.rangeM 0 H rfl rfl Try.underlying290 rfl ?_
        intro q9 w9 H
        have H := H.nilRow 62 2
        refine JL.nil ?_
        ((repeat refine Ex.normal_block ?_); refine Ex.next ?_)
        ((repeat refine JC.seq ?_); refine JC.block ?_)
        ((repeat refine JC.seq ?_); refine JC.loop (ι := List (Cell × Bool) × Array Nat × Nat × List Cell × Value) (fun x => [(2, .pointer (some ⟨b2, 0, none⟩)), (30, .pointer (some ⟨q9, 0, none⟩)), (10, x.2.2.2.2)])
          (fun x wr => ItIs Cell.ev Value.bool es x.2.1 x.1 ∧ clock ≤ x.2.2.1 ∧ ((∀ c, (c ∈ x.2.2.2.1 ∨ ∃ b', (c, b') ∈ x.1) ↔ setR m c = true) ∧ x.2.2.2.1.length + x.1.length ≤ m.length) ∧ Own w wr [cellRow x.2.2.2.2 x.2.2.2.1, blk q9 (.mapIter (some β) clock x.2.1 x.2.2.1), blk β (.map es clock), blk b3 (.cells ⟨[.int .i64 t, .slice a1 l.length d1, .slice a2 r.length d2, .slice a3 b.length d3, .bool off]⟩ 90 (0, 0)), blk b2 (.cells ⟨[.int .i64 g.W, .int .i64 g.H, .int .i64 g.S, .slice la g.land.length lc]⟩ 52 (0, 0))]) (fun x => x.1.length) (m, #[], clock, [], .slice none 0 0) ?_ ?_ ?_)
        · exact ⟨rfl, rfl, rfl, trivial⟩
        · exact ⟨ItIs.start hM, Nat.le_refl _, ⟨fun c => by simp only [List.not_mem_nil, false_or]; rw [setR_key hnd hT], by simp⟩, H⟩
        · rintro ⟨ls9, seen, c0, out, v⟩ wr ⟨hit, hc0, ⟨hout, hol⟩, H⟩
          simp only at hit hc0 hout hol H
          show JC _ _ _ _ [(2, .pointer (some ⟨b2, 0, none⟩)), (30, .pointer (some ⟨q9, 0, none⟩)), (10, v)] _
          ((repeat refine JC.seq ?_); refine JC.region ?_)
          refine JL.nextM 1 2 H rfl rfl rfl hM.old hc0 rfl ?_ ?_
          · intro h0
            have hl0 := hit.ended h0
            subst hl0
            refine JL.pure rfl rfl ?_
            refine JL.nil ?_
            ((repeat refine Ex.normal_block ?_); refine Ex.next ?_)
            ((repeat refine JC.seq ?_); refine JC.cond rfl (fun h => by cases h) (fun _ => ?_))
            ((repeat refine JC.seq ?_); refine JC.exit ?_)
            (repeat (first | refine Ex.exit_then ?_ | refine Ex.exit_miss (by decide) ?_))
            refine Ex.exit_hit ?_
            ((repeat refine Ex.normal_block ?_); refine Ex.next ?_)
            ((repeat refine JC.seq ?_); refine JC.region ?_)
            refine JL.loadB 4 H rfl sh52 rfl rfl rfl ?_
            refine JL.pure rfl rfl ?_
            have hfin : ∀ c, c ∈ out ↔ ((hasB l c || hasB r c) || hasB b c) = true := fun c => by rw [← hU c, ← hout c]; simp
            refine JL.call fb99 rfl rfl (region99_c g _ _ out _ (hl.grow H.below) (H.rowSl (j := 0) (enc := Cell.cs) (fun _ => rfl) rfl (by omega)) hg (fun c hc => hin c ((hfin c).1 hc)) (by omega)) ?_
            rw [regC_runs hg hfin hin]
            rintro _ w6 ⟨rv, rfl, K⟩
            have H := H.join K
            refine ⟨_, rfl, ?_⟩
            refine JL.pure rfl rfl ?_
            refine JL.pure rfl rfl ?_
            refine JL.pure rfl rfl ?_
            refine JL.pure rfl rfl ?_
            refine JL.nil ?_
            ((repeat refine Ex.normal_block ?_); refine Ex.next ?_)
            ((repeat refine JC.seq ?_); refine JC.ret ?_)
            (repeat (first | refine Ex.ret_then ?_ | refine Ex.ret_block ?_))
            refine Ex.ret2 rfl (.tmp rfl) (.tmp rfl) ?_
            rw [hR]
            exact ⟨_, rfl, (((((H.drop 1).drop 1).drop 1).drop 1).drop 1)⟩
          · intro e9 w9 he H
            obtain ⟨hes, aa, ⟨c9, kk⟩, bb, rfl, hke, hve, hit2⟩ := hit.step hM he
            simp only at hke hve
            rw [hke, hve]
            refine JL.pure rfl rfl ?_
            refine JL.nil ?_
            ((repeat refine Ex.normal_block ?_); refine Ex.next ?_)
            ((repeat refine JC.seq ?_); refine JC.cond rfl (fun _ => ?_) (fun h => by cases h))
            ((repeat refine JC.seq ?_); refine JC.skip ?_)
            ((repeat refine Ex.normal_block ?_); refine Ex.next ?_)
            ((repeat refine JC.seq ?_); refine JC.block ?_)
            ((repeat refine JC.seq ?_); refine JC.region ?_)
            refine JL.entryM 1 2 H rfl rfl rfl hes hM.born rfl ?_
            rw [hke, hve]
            refine JL.pure rfl rfl ?_
            refine JL.alloc H z62 rfl ?_
            intro b11 w7 H
            refine JL.storeB 0 H rfl rfl sh62 rfl rfl rfl rfl rfl ?_
            intro w8 H
            refine JL.nil ?_
            ((repeat refine Ex.normal_block ?_); refine Ex.next ?_)
            ((repeat refine JC.seq ?_); refine JC.region ?_)
            refine JL.pure rfl rfl ?_
            refine JL.loadB 0 H rfl sh62 rfl rfl rfl ?_
            refine JL.buildSlice H Try.underlying68 sh62 z62 rfl rfl rfl rfl rfl ?_
            intro b37 w9 H
            refine JL.append1 (news := Cell.cs c9) 2 0 H Try.underlying68 ap62 rfl rfl rfl rfl rfl rfl (by omega) (by omega) rfl ?_
            intro v2 w10 H
            replace H := H.cast (L := _ :: _ :: cellRow v2 (out ++ [c9]) :: _) (by unfold cellRow; rw [← trow_snoc]; rfl)
            refine JL.pure rfl rfl ?_
            refine JL.nil ?_
            (repeat refine Ex.normal_block ?_)
            refine Ex.again (aa ++ bb, seen.push e9.born, clock, out ++ [c9], v2) ⟨rfl, rfl, rfl, trivial⟩ ⟨hit2, Nat.le_refl _, ⟨fun x => ?_, by simp only [List.length_append, List.length_cons, List.length_nil] at hol ⊢; omega⟩, (H.drop 0).drop 0⟩ (by simp only [List.length_append, List.length_cons]; omega)
            simp only
            rw [← hout x]
            by_cases hxc : x = c9
            · subst hxc
              exact ⟨fun _ => .inr ⟨kk, by simp⟩, fun _ => .inl (by simp)⟩
            · have e1 : (∃ b', (x, b') ∈ aa ++ (c9, kk) :: bb) ↔ ∃ b', (x, b') ∈ aa ++ bb := by
                simp [hxc]
              rw [e1]
              simp [hxc]
end Go.J

namespace Go.J
open Go.RowKit Go.Proofs
set_option maxRecDepth 8000
set_option linter.unusedSimpArgs false
set_option linter.unusedVariables false
/-! the statement DriftMore: its walk -/
def Patch.cs (p : Patch) : List Value := [.int .i64 p.time, p.lv, p.rv, p.bv, .bool p.off]
def fineR (l : List Run) : Prop := Tame l ∧ l.length ≤ 8192
theorem fine_right {g : Grid} (hg : g.ok = true) {l : List Run} (h : rightB g.W g.H l = true) : fineR l := by
  obtain ⟨hW, hH, _, _⟩ := Grid.ok_b hg
  exact ⟨tame_right hW.2 (right_iff.1 h).1, (right_iff.1 h).2⟩
end Go.J

namespace Go.J
open Go.RowKit Go.Proofs
set_option maxRecDepth 8000
set_option maxHeartbeats 3200000
set_option linter.unusedSimpArgs false
set_option linter.unusedVariables false
/-! the statement DriftParts: its walk -/
theorem runsR_len (g : Grid) (s : Cell → Bool) : (runsR g s).1.length ≤ 8192 := by
  unfold runsR
  split
  · simp
  · simp only; omega
def lenQ (q : QP) : Prop := q.l.length ≤ 8192 ∧ q.r.length ≤ 8192 ∧ q.b.length ≤ 8192
theorem lenQ_z : lenQ zQP := ⟨by simp [zQP], by simp [zQP], by simp [zQP]⟩
theorem cut_len (n : Int) (g : Grid) (p : QP) (r : List Run) : lenQ (cutR n g p r).1 := by
  unfold cutR
  split
  · exact lenQ_z
  · split
    · exact lenQ_z
    · exact ⟨twoR_len _ _ _ _, twoR_len _ _ _ _, twoR_len _ _ _ _⟩
theorem pair_len (n : Int) (g : Grid) (p q : QP) (o : Bool) : lenQ (pairR n g p q o).1 := by
  unfold pairR
  split
  · exact lenQ_z
  · split
    · exact lenQ_z
    · exact ⟨twoR_len _ _ _ _, twoR_len _ _ _ _, twoR_len _ _ _ _⟩
theorem meet_len (g : Grid) (p q : QP) : lenQ (meetPR g p q).1 := by
  unfold meetPR
  split
  · exact lenQ_z
  · exact pair_len _ _ _ _ _
theorem where_len (g : Grid) (p : QP) : (whereR g p).1.length ≤ 8192 := by
  unfold whereR
  split
  · exact runsR_len _ _
  · simp
theorem big {n : Nat} (h : n ≤ 8192) : n ≤ 9223372036854775807 := by omega
theorem nilFlows (w : World) : FlowsIs w (.slice none 0 0) [] := ⟨⟨by simp, none, 0, rfl, .inl rfl⟩, by simp⟩
theorem dparts_c (g : Grid) (lv : Value) (t t' : Int) (lf rf bf lf' rf' bf' qv : Value) (l r b l' r' b' q : List Run) (off off' : Bool) (w : World) (hl : SlR w lv g.land) (hcl : capOK lv) (h1 : SlR w lf l) (h2 : SlR w rf r) (h3 : SlR w bf b) (k1 : SlR w lf' l') (k2 : SlR w rf' r') (k3 : SlR w bf' b')
    (c1 : capOK lf) (c2 : capOK rf) (c3 : capOK bf) (c4 : capOK lf') (c5 : capOK rf') (c6 : capOK bf') (hq : SlR w qv q) (c7 : capOK qv) :
    Calls Try.prog 25 #[g.ev lv, Patch.ev ⟨t, lf, l, rf, r, bf, b, off⟩, Patch.ev ⟨t', lf', l', rf', r', bf', b', off'⟩, qv] w (fun e w' => e = .returned (.bool true) ∧ Below w.heap.size w w') := by
  obtain ⟨la, lc, rfl⟩ := hl.len
  obtain ⟨a1, d1, rfl⟩ := h1.len
  obtain ⟨a2, d2, rfl⟩ := h2.len
  obtain ⟨a3, d3, rfl⟩ := h3.len
  obtain ⟨a4, d4, rfl⟩ := k1.len
  obtain ⟨a5, d5, rfl⟩ := k2.len
  obtain ⟨a6, d6, rfl⟩ := k3.len
  obtain ⟨qa, qc, rfl⟩ := hq.len
  refine calls_J (args := [g.ev (.slice la g.land.length lc), .agg ⟨[.int .i64 t, .slice a1 l.length d1, .slice a2 r.length d2, .slice a3 b.length d3, .bool off]⟩, .agg ⟨[.int .i64 t', .slice a4 l'.length d4, .slice a5 r'.length d5, .slice a6 b'.length d6, .bool off']⟩, .slice qa q.length qc]) Try.func25 rfl Try.ntmps25 rfl ?_
  have H := Own.start w
  ((repeat refine JC.seq ?_); refine JC.region ?_)
  refine JL.box H rfl rfl rfl ?_
  intro b4 w1 H
  refine JL.box H rfl rfl rfl ?_
  intro b5 w2 H
  refine JL.box H rfl rfl rfl ?_
  intro b6 w3 H
  refine JL.pure rfl rfl ?_
  refine JL.nil ?_
  ((repeat refine Ex.normal_block ?_); refine Ex.next ?_)
  ((repeat refine JC.seq ?_); refine JC.region ?_)
  refine JL.callP H fb60 rfl rfl (alive60_c _) ?_
  intro w4 H _
  refine JL.pure rfl rfl ?_
  refine JL.nil ?_
  ((repeat refine Ex.normal_block ?_); refine Ex.next ?_)
  ((repeat refine JC.seq ?_); refine JC.region ?_)
  refine JL.loadB 2 H rfl sh52 rfl rfl rfl ?_
  refine JL.build s84 rfl rfl ?_
  refine JL.loadB 1 H rfl sh90 rfl rfl rfl ?_
  refine JL.loadB 0 H rfl sh90 rfl rfl rfl ?_
  refine JL.buildSlice H Try.underlying216 sh90 z90 rfl rfl rfl rfl rfl ?_
  intro b34 w5 H
  refine JL.call fb61 rfl rfl (great04_c g _ 1024 _ _ _ [] [] [⟨t, _, l, _, r, _, b, off⟩, ⟨t', _, l', _, r', _, b', off'⟩] _ (hl.grow H.below) (nilFlows _) (nilFlows _) (H.blkSl (j := 0) (enc := Patch.cs) rfl [⟨t, .slice a1 l.length d1, l, .slice a2 r.length d2, r, .slice a3 b.length d3, b, off⟩, ⟨t', .slice a4 l'.length d4, l', .slice a5 r'.length d5, r', .slice a6 b'.length d6, b', off'⟩] rfl (fun _ => rfl) (by simp)) (fun p9 hp9 => by
    simp only [List.mem_cons, List.not_mem_nil, or_false] at hp9
    rcases hp9 with rfl | rfl
    · exact ⟨h1.grow H.below, h2.grow H.below, h3.grow H.below⟩
    · exact ⟨k1.grow H.below, k2.grow H.below, k3.grow H.below⟩)) ?_
  rintro _ w6 ⟨gb, rfl, hgb, K⟩
  have H := H.grow K
  refine ⟨_, rfl, ?_⟩
  refine JL.pure rfl rfl ?_
  refine JL.cases 36 rfl ?_ ?_
  · intro h36
    (try simp only [Bool.not_eq_true', Bool.not_eq_false', decide_eq_true_eq, decide_eq_false_iff_not] at h36)
    refine JL.pass rfl rfl rfl rfl ?_
    refine JL.pass rfl rfl rfl rfl ?_
    refine JL.pass rfl rfl rfl rfl ?_
    refine JL.pure rfl rfl ?_
    refine JL.pure rfl rfl ?_
    refine JL.pass rfl rfl rfl rfl ?_
    refine JL.pass rfl rfl rfl rfl ?_
    refine JL.pure rfl rfl ?_
    refine JL.nil ?_
    ((repeat refine Ex.normal_block ?_); refine Ex.next ?_)
    ((repeat refine JC.seq ?_); refine JC.cond rfl (fun _ => ?_) (fun h => by cases h))
    ((repeat refine JC.seq ?_); refine JC.region ?_)
    refine JL.pure rfl rfl ?_
    refine JL.pure rfl rfl ?_
    refine JL.nil ?_
    ((repeat refine Ex.normal_block ?_); refine Ex.next ?_)
    ((repeat refine JC.seq ?_); refine JC.ret ?_)
    (repeat (first | refine Ex.ret_then ?_ | refine Ex.ret_block ?_))
    refine Ex.ret1 rfl (.tmp rfl) ⟨rfl, H.below⟩
  · intro h36
    (try simp only [Bool.not_eq_true', Bool.not_eq_false', decide_eq_true_eq, decide_eq_false_iff_not] at h36)
    refine JL.want rfl rfl ?_
    refine JL.pure rfl rfl ?_
    refine JL.want rfl rfl ?_
    refine JL.len rfl Try.underlying50 rfl ?_
    refine JL.want rfl rfl ?_
    refine JL.pure rfl rfl ?_
    refine JL.pure rfl rfl ?_
    refine JL.pure rfl rfl ?_
    refine JL.cases 41 rfl ?_ ?_
    · intro h41
      (try simp only [Bool.not_eq_true', Bool.not_eq_false', decide_eq_true_eq, decide_eq_false_iff_not] at h41)
      refine JL.pass rfl rfl rfl rfl ?_
      refine JL.pass rfl rfl rfl rfl ?_
      refine JL.pure rfl rfl ?_
      refine JL.nil ?_
      ((repeat refine Ex.normal_block ?_); refine Ex.next ?_)
      ((repeat refine JC.seq ?_); refine JC.cond rfl (fun _ => ?_) (fun h => by cases h))
      ((repeat refine JC.seq ?_); refine JC.region ?_)
      refine JL.pure rfl rfl ?_
      refine JL.pure rfl rfl ?_
      refine JL.nil ?_
      ((repeat refine Ex.normal_block ?_); refine Ex.next ?_)
      ((repeat refine JC.seq ?_); refine JC.ret ?_)
      (repeat (first | refine Ex.ret_then ?_ | refine Ex.ret_block ?_))
      refine Ex.ret1 rfl (.tmp rfl) ⟨rfl, H.below⟩
    · intro h41
      (try simp only [Bool.not_eq_true', Bool.not_eq_false', decide_eq_true_eq, decide_eq_false_iff_not] at h41)
      refine JL.want rfl rfl ?_
      refine JL.pure rfl rfl ?_
      refine JL.want rfl rfl ?_
      refine JL.pure rfl rfl ?_
      refine JL.pure rfl rfl ?_
      refine JL.nil ?_
      ((repeat refine Ex.normal_block ?_); refine Ex.next ?_)
      ((repeat refine JC.seq ?_); refine JC.cond rfl ?_ ?_)
      · intro h44
        (try simp only [Bool.not_eq_true', Bool.not_eq_false', decide_eq_true_eq, decide_eq_false_iff_not] at h44)
        ((repeat refine JC.seq ?_); refine JC.region ?_)
        refine JL.pure rfl rfl ?_
        refine JL.pure rfl rfl ?_
        refine JL.nil ?_
        ((repeat refine Ex.normal_block ?_); refine Ex.next ?_)
        ((repeat refine JC.seq ?_); refine JC.ret ?_)
        (repeat (first | refine Ex.ret_then ?_ | refine Ex.ret_block ?_))
        refine Ex.ret1 rfl (.tmp rfl) ⟨rfl, H.below⟩
      · intro h44
        (try simp only [Bool.not_eq_true', Bool.not_eq_false', decide_eq_true_eq, decide_eq_false_iff_not] at h44)
        ((repeat refine JC.seq ?_); refine JC.skip ?_)
        ((repeat refine Ex.normal_block ?_); refine Ex.next ?_)
        ((repeat refine JC.seq ?_); refine JC.region ?_)
        refine JL.loadB 3 H rfl sh52 rfl rfl rfl ?_
        refine JL.loadB 2 H rfl sh90 rfl rfl rfl ?_
        refine JL.pure rfl rfl ?_
        have hsm : g.ok = true → g.W * g.H ≤ 4096 := by
          have hg9 := hgb (by simp_all)
          have := (great_small hg9).1
          intro hok; have := this hok; omega
        have hlaw := dparts_law hsm ⟨t, l, r, b, off⟩ q
        have hbo9 : (cutR 1 g ⟨t, l, r, b, off⟩ q).2 ≠ 0 ∨ (cutR 2 g ⟨t, l, r, b, off⟩ q).2 ≠ 0 → (cutR 1 g ⟨t, l, r, b, off⟩ q) = (zQP, 2) ∧ (cutR 2 g ⟨t, l, r, b, off⟩ q) = (zQP, 2) := by
          intro h65
          rcases hlaw with h | ⟨I, O, ⟨e1, e2⟩, _⟩
          · exact h
          · exfalso; rw [e1, e2] at h65; simp at h65
        have ln1 := cut_len 1 g ⟨t, l, r, b, off⟩ q
        have ln2 := cut_len 2 g ⟨t, l, r, b, off⟩ q
        refine JL.call fb103 rfl rfl (within103_c g _ t _ _ _ _ l r b q off _ (hl.grow H.below) hcl (h1.grow H.below) (h2.grow H.below) (h3.grow H.below) (hq.grow H.below) c1 c2 c3 c7) ?_
        rintro _ w7 ⟨va, vb, vc, rfl, K⟩
        obtain ⟨x1a, y1a, rfl⟩ := K.row_slice (j := 0) rfl
        obtain ⟨x1b, y1b, rfl⟩ := K.row_slice (j := 1) rfl
        obtain ⟨x1c, y1c, rfl⟩ := K.row_slice (j := 2) rfl
        have H := H.join K
        refine ⟨_, rfl, ?_⟩
        refine JL.pure rfl rfl ?_
        refine JL.pure rfl rfl ?_
        refine JL.pure rfl rfl ?_
        refine JL.alloc H z90 rfl ?_
        intro b10 w8 H
        refine JL.storeB 0 H rfl rfl sh90 rfl rfl rfl rfl rfl ?_
        intro w9 H
        refine JL.pure rfl rfl ?_
        refine JL.nil ?_
        ((repeat refine Ex.normal_block ?_); refine Ex.next ?_)
        ((repeat refine JC.seq ?_); refine JC.region ?_)
        refine JL.loadB 7 H rfl sh52 rfl rfl rfl ?_
        refine JL.loadB 6 H rfl sh90 rfl rfl rfl ?_
        refine JL.pure rfl rfl ?_
        refine JL.call fb111 rfl rfl (except111_c g _ t _ _ _ _ l r b q off _ (hl.grow H.below) hcl (h1.grow H.below) (h2.grow H.below) (h3.grow H.below) (hq.grow H.below) c1 c2 c3 c7) ?_
        rintro _ w10 ⟨va, vb, vc, rfl, K⟩
        obtain ⟨x2a, y2a, rfl⟩ := K.row_slice (j := 0) rfl
        obtain ⟨x2b, y2b, rfl⟩ := K.row_slice (j := 1) rfl
        obtain ⟨x2c, y2c, rfl⟩ := K.row_slice (j := 2) rfl
        have H := H.join K
        refine ⟨_, rfl, ?_⟩
        refine JL.pure rfl rfl ?_
        refine JL.pure rfl rfl ?_
        refine JL.pure rfl rfl ?_
        refine JL.alloc H z90 rfl ?_
        intro b12 w11 H
        refine JL.storeB 0 H rfl rfl sh90 rfl rfl rfl rfl rfl ?_
        intro w12 H
        refine JL.pure rfl rfl ?_
        refine JL.nil ?_
        ((repeat refine Ex.normal_block ?_); refine Ex.next ?_)
        ((repeat refine JC.seq ?_); refine JC.region ?_)
        refine JL.pure rfl rfl ?_
        refine JL.pure rfl rfl ?_
        refine JL.pure rfl rfl ?_
        refine JL.cases 62 rfl ?_ ?_
        · intro h62
          (try simp only [Bool.not_eq_true', Bool.not_eq_false', decide_eq_true_eq, decide_eq_false_iff_not] at h62)
          refine JL.pass rfl rfl rfl rfl ?_
          refine JL.pass rfl rfl rfl rfl ?_
          refine JL.pure rfl rfl ?_
          refine JL.nil ?_
          ((repeat refine Ex.normal_block ?_); refine Ex.next ?_)
          ((repeat refine JC.seq ?_); refine JC.cond rfl (fun _ => ?_) (fun h => by cases h))
          ((repeat refine JC.seq ?_); refine JC.region ?_)
          refine JL.pure rfl rfl ?_
          refine JL.pure rfl rfl ?_
          refine JL.re 67 rfl (v' := .bool true) (rfl) ?_
          refine JL.want rfl rfl ?_
          refine JL.pure rfl rfl ?_
          refine JL.want rfl rfl ?_
          refine JL.pure rfl rfl ?_
          refine JL.re 69 rfl (v' := .bool true) (congrArg Value.bool (decide_eq_true (by rw [(hbo9 (by first | exact .inl h62 | exact .inr h65)).1]))) ?_
          refine JL.pure rfl rfl ?_
          refine JL.pure rfl rfl ?_
          refine JL.re 71 rfl (v' := .bool true) (rfl) ?_
          refine JL.want rfl rfl ?_
          refine JL.pure rfl rfl ?_
          refine JL.want rfl rfl ?_
          refine JL.pure rfl rfl ?_
          refine JL.re 73 rfl (v' := .bool true) (congrArg Value.bool (decide_eq_true (by rw [(hbo9 (by first | exact .inl h62 | exact .inr h65)).2]))) ?_
          refine JL.pure rfl rfl ?_
          refine JL.pure rfl rfl ?_
          refine JL.nil ?_
          ((repeat refine Ex.normal_block ?_); refine Ex.next ?_)
          ((repeat refine JC.seq ?_); refine JC.ret ?_)
          (repeat (first | refine Ex.ret_then ?_ | refine Ex.ret_block ?_))
          refine Ex.ret1 rfl (.tmp rfl) ⟨rfl, H.below⟩
        · intro h62
          (try simp only [Bool.not_eq_true', Bool.not_eq_false', decide_eq_true_eq, decide_eq_false_iff_not] at h62)
          refine JL.want rfl rfl ?_
          refine JL.pure rfl rfl ?_
          refine JL.want rfl rfl ?_
          refine JL.pure rfl rfl ?_
          refine JL.pure rfl rfl ?_
          refine JL.nil ?_
          ((repeat refine Ex.normal_block ?_); refine Ex.next ?_)
          ((repeat refine JC.seq ?_); refine JC.cond rfl ?_ ?_)
          · intro h65
            (try simp only [Bool.not_eq_true', Bool.not_eq_false', decide_eq_true_eq, decide_eq_false_iff_not] at h65)
            
            ((repeat refine JC.seq ?_); refine JC.region ?_)
            refine JL.pure rfl rfl ?_
            refine JL.pure rfl rfl ?_
            refine JL.re 67 rfl (v' := .bool true) (rfl) ?_
            refine JL.want rfl rfl ?_
            refine JL.pure rfl rfl ?_
            refine JL.want rfl rfl ?_
            refine JL.pure rfl rfl ?_
            refine JL.re 69 rfl (v' := .bool true) (congrArg Value.bool (decide_eq_true (by rw [(hbo9 (by first | exact .inl h62 | exact .inr h65)).1]))) ?_
            refine JL.pure rfl rfl ?_
            refine JL.pure rfl rfl ?_
            refine JL.re 71 rfl (v' := .bool true) (rfl) ?_
            refine JL.want rfl rfl ?_
            refine JL.pure rfl rfl ?_
            refine JL.want rfl rfl ?_
            refine JL.pure rfl rfl ?_
            refine JL.re 73 rfl (v' := .bool true) (congrArg Value.bool (decide_eq_true (by rw [(hbo9 (by first | exact .inl h62 | exact .inr h65)).2]))) ?_
            refine JL.pure rfl rfl ?_
            refine JL.pure rfl rfl ?_
            refine JL.nil ?_
            ((repeat refine Ex.normal_block ?_); refine Ex.next ?_)
            ((repeat refine JC.seq ?_); refine JC.ret ?_)
            (repeat (first | refine Ex.ret_then ?_ | refine Ex.ret_block ?_))
            refine Ex.ret1 rfl (.tmp rfl) ⟨rfl, H.below⟩
          · intro h65
            (try simp only [Bool.not_eq_true', Bool.not_eq_false', decide_eq_true_eq, decide_eq_false_iff_not] at h65)
            have hz : (cutR 1 g ⟨t, l, r, b, off⟩ q).2 = 0 ∧ (cutR 2 g ⟨t, l, r, b, off⟩ q).2 = 0 := by simp_all
            have hlaw2 : pairR 0 g (⟨(cutR 1 g ⟨t, l, r, b, off⟩ q).1.time, (cutR 1 g ⟨t, l, r, b, off⟩ q).1.l, (cutR 1 g ⟨t, l, r, b, off⟩ q).1.r, (cutR 1 g ⟨t, l, r, b, off⟩ q).1.b, (cutR 1 g ⟨t, l, r, b, off⟩ q).1.off⟩ : QP) (⟨(cutR 2 g ⟨t, l, r, b, off⟩ q).1.time, (cutR 2 g ⟨t, l, r, b, off⟩ q).1.l, (cutR 2 g ⟨t, l, r, b, off⟩ q).1.r, (cutR 2 g ⟨t, l, r, b, off⟩ q).1.b, (cutR 2 g ⟨t, l, r, b, off⟩ q).1.off⟩ : QP) ((cutR 1 g ⟨t, l, r, b, off⟩ q).1.off || (cutR 2 g ⟨t, l, r, b, off⟩ q).1.off) = ((⟨t, l, r, b, off⟩ : QP), (0 : Int)) ∧ (whereR g ⟨t, l, r, b, off⟩).2 = 0 ∧ (whereR g (⟨(cutR 1 g ⟨t, l, r, b, off⟩ q).1.time, (cutR 1 g ⟨t, l, r, b, off⟩ q).1.l, (cutR 1 g ⟨t, l, r, b, off⟩ q).1.r, (cutR 1 g ⟨t, l, r, b, off⟩ q).1.b, (cutR 1 g ⟨t, l, r, b, off⟩ q).1.off⟩ : QP)).2 = 0 ∧ (bothR g (whereR g ⟨t, l, r, b, off⟩).1 q).2 = 0 ∧ meetPR g (⟨(cutR 1 g ⟨t, l, r, b, off⟩ q).1.time, (cutR 1 g ⟨t, l, r, b, off⟩ q).1.l, (cutR 1 g ⟨t, l, r, b, off⟩ q).1.r, (cutR 1 g ⟨t, l, r, b, off⟩ q).1.b, (cutR 1 g ⟨t, l, r, b, off⟩ q).1.off⟩ : QP) (⟨(cutR 2 g ⟨t, l, r, b, off⟩ q).1.time, (cutR 2 g ⟨t, l, r, b, off⟩ q).1.l, (cutR 2 g ⟨t, l, r, b, off⟩ q).1.r, (cutR 2 g ⟨t, l, r, b, off⟩ q).1.b, (cutR 2 g ⟨t, l, r, b, off⟩ q).1.off⟩ : QP) = (zQP, 7) ∧ (whereR g (⟨(cutR 1 g ⟨t, l, r, b, off⟩ q).1.time, (cutR 1 g ⟨t, l, r, b, off⟩ q).1.l, (cutR 1 g ⟨t, l, r, b, off⟩ q).1.r, (cutR 1 g ⟨t, l, r, b, off⟩ q).1.b, (cutR 1 g ⟨t, l, r, b, off⟩ q).1.off⟩ : QP)).1 = (bothR g (whereR g ⟨t, l, r, b, off⟩).1 q).1 ∧
                  ∀ x : QP, (pairR 0 g ⟨t, l, r, b, off⟩ x (off || x.off)).2 = 0 → (emptyQ ⟨t, l, r, b, off⟩ = true ∧ (meetPR g ⟨t, l, r, b, off⟩ (pairR 0 g ⟨t, l, r, b, off⟩ x (off || x.off)).1).2 = 7) ∨ meetPR g ⟨t, l, r, b, off⟩ (pairR 0 g ⟨t, l, r, b, off⟩ x (off || x.off)).1 = (⟨t, l, r, b, off⟩, 0) := by
              rcases hlaw with ⟨h, _⟩ | ⟨I, O, ⟨e1, e2⟩, h⟩
              · rw [h] at hz; exact absurd hz.1 (by decide)
              · rw [e1, e2]; exact h
            obtain ⟨L1, L2, L3, L4, L5, L6, L7⟩ := hlaw2
            have hla : l.length ≤ 8192 ∧ r.length ≤ 8192 ∧ b.length ≤ 8192 := by
              rcases cutR_ok (n := 1) hsm (p := ⟨t, l, r, b, off⟩) (r := q) with ⟨e, _⟩ | ⟨hp, _, _⟩
              · rw [e] at hz; exact absurd hz.1 (by decide)
              · obtain ⟨hg, _, ⟨q1, q2, q3⟩, _⟩ := patR_ok hsm hp
                exact ⟨(fine_right hg q1).2, (fine_right hg q2).2, (fine_right hg q3).2⟩
            ((repeat refine JC.seq ?_); refine JC.skip ?_)
            ((repeat refine Ex.normal_block ?_); refine Ex.next ?_)
            ((repeat refine JC.seq ?_); refine JC.region ?_)
            refine JL.loadB 11 H rfl sh52 rfl rfl rfl ?_
            refine JL.loadB 4 H rfl sh90 rfl rfl rfl ?_
            refine JL.loadB 0 H rfl sh90 rfl rfl rfl ?_
            refine JL.call fb112 rfl rfl (show Calls Try.prog 112 _ _ (fun e w' => PatR _ w' [] ((⟨t, l, r, b, off⟩ : QP), (0 : Int)) e) from by
              have h9 := join112_c g _ (cutR 1 g ⟨t, l, r, b, off⟩ q).1.time (cutR 2 g ⟨t, l, r, b, off⟩ q).1.time _ _ _ _ _ _ (cutR 1 g ⟨t, l, r, b, off⟩ q).1.l (cutR 1 g ⟨t, l, r, b, off⟩ q).1.r (cutR 1 g ⟨t, l, r, b, off⟩ q).1.b (cutR 2 g ⟨t, l, r, b, off⟩ q).1.l (cutR 2 g ⟨t, l, r, b, off⟩ q).1.r (cutR 2 g ⟨t, l, r, b, off⟩ q).1.b (cutR 1 g ⟨t, l, r, b, off⟩ q).1.off (cutR 2 g ⟨t, l, r, b, off⟩ q).1.off _ (hl.grow H.below) hcl (runSl H (j := 5) rfl (big ln1.1)) (runSl H (j := 6) rfl (big ln1.2.1)) (runSl H (j := 7) rfl (big ln1.2.2)) (runSl H (j := 1) rfl (big ln2.1)) (runSl H (j := 2) rfl (big ln2.2.1)) (runSl H (j := 3) rfl (big ln2.2.2)) (H.rowCap (j := 5) rfl) (H.rowCap (j := 6) rfl) (H.rowCap (j := 7) rfl) (H.rowCap (j := 1) rfl) (H.rowCap (j := 2) rfl) (H.rowCap (j := 3) rfl)
              rw [L1] at h9
              exact h9) ?_
            rintro _ w13 ⟨va, vb, vc, rfl, K⟩
            obtain ⟨x3a, y3a, rfl⟩ := K.row_slice (j := 0) rfl
            obtain ⟨x3b, y3b, rfl⟩ := K.row_slice (j := 1) rfl
            obtain ⟨x3c, y3c, rfl⟩ := K.row_slice (j := 2) rfl
            have H := H.join K
            refine ⟨_, rfl, ?_⟩
            refine JL.pure rfl rfl ?_
            refine JL.pure rfl rfl ?_
            refine JL.pure rfl rfl ?_
            refine JL.alloc H z90 rfl ?_
            intro b14 w14 H
            refine JL.storeB 0 H rfl rfl sh90 rfl rfl rfl rfl rfl ?_
            intro w15 H
            refine JL.pure rfl rfl ?_
            refine JL.nil ?_
            ((repeat refine Ex.normal_block ?_); refine Ex.next ?_)
            ((repeat refine JC.seq ?_); refine JC.region ?_)
            refine JL.loadB 15 H rfl sh52 rfl rfl rfl ?_
            refine JL.loadB 14 H rfl sh90 rfl rfl rfl ?_
            refine JL.call fb113 rfl rfl (where113_c g _ t _ _ _ l r b off _ hsm (hl.grow H.below) hcl (h1.grow H.below) (h2.grow H.below) (h3.grow H.below) c1 c2 c3) ?_
            rintro _ w16 ⟨rv, rfl, K⟩
            obtain ⟨xwa, ywa, rfl⟩ := K.row_slice (j := 0) rfl
            have H := H.join K
            refine ⟨_, rfl, ?_⟩
            refine JL.pure rfl rfl ?_
            refine JL.pure rfl rfl ?_
            refine JL.pure rfl rfl ?_
            refine JL.pure rfl rfl ?_
            refine JL.pure rfl rfl ?_
            refine JL.nil ?_
            ((repeat refine Ex.normal_block ?_); refine Ex.next ?_)
            ((repeat refine JC.seq ?_); refine JC.region ?_)
            refine JL.loadB 16 H rfl sh52 rfl rfl rfl ?_
            refine JL.loadB 9 H rfl sh90 rfl rfl rfl ?_
            refine JL.call fb113 rfl rfl (where113_c g _ (cutR 1 g ⟨t, l, r, b, off⟩ q).1.time _ _ _ (cutR 1 g ⟨t, l, r, b, off⟩ q).1.l (cutR 1 g ⟨t, l, r, b, off⟩ q).1.r (cutR 1 g ⟨t, l, r, b, off⟩ q).1.b (cutR 1 g ⟨t, l, r, b, off⟩ q).1.off _ hsm (hl.grow H.below) hcl (runSl H (j := 10) rfl (big ln1.1)) (runSl H (j := 11) rfl (big ln1.2.1)) (runSl H (j := 12) rfl (big ln1.2.2)) (H.rowCap (j := 10) rfl) (H.rowCap (j := 11) rfl) (H.rowCap (j := 12) rfl)) ?_
            rintro _ w17 ⟨rv, rfl, K⟩
            obtain ⟨xwi, ywi, rfl⟩ := K.row_slice (j := 0) rfl
            have H := H.join K
            refine ⟨_, rfl, ?_⟩
            refine JL.pure rfl rfl ?_
            refine JL.pure rfl rfl ?_
            refine JL.pure rfl rfl ?_
            refine JL.pure rfl rfl ?_
            refine JL.pure rfl rfl ?_
            refine JL.nil ?_
            ((repeat refine Ex.normal_block ?_); refine Ex.next ?_)
            ((repeat refine JC.seq ?_); refine JC.region ?_)
            refine JL.loadB 17 H rfl sh52 rfl rfl rfl ?_
            refine JL.pure rfl rfl ?_
            refine JL.pure rfl rfl ?_
            have lnW := where_len g ⟨t, l, r, b, off⟩
            refine JL.call fb42 rfl rfl (both2_c g _ _ _ (whereR g ⟨t, l, r, b, off⟩).1 q _ (hl.grow H.below) (runSl H (j := 1) rfl (big lnW)) (hq.grow H.below) (H.rowCap (j := 1) rfl) c7) ?_
            rintro _ w18 ⟨rv, rfl, K⟩
            obtain ⟨xbo, ybo, rfl⟩ := K.row_slice (j := 0) rfl
            have H := H.join K
            refine ⟨_, rfl, ?_⟩
            refine JL.pure rfl rfl ?_
            refine JL.pure rfl rfl ?_
            refine JL.pure rfl rfl ?_
            refine JL.pure rfl rfl ?_
            refine JL.pure rfl rfl ?_
            refine JL.nil ?_
            ((repeat refine Ex.normal_block ?_); refine Ex.next ?_)
            ((repeat refine JC.seq ?_); refine JC.region ?_)
            refine JL.loadB 18 H rfl sh52 rfl rfl rfl ?_
            refine JL.loadB 11 H rfl sh90 rfl rfl rfl ?_
            refine JL.loadB 7 H rfl sh90 rfl rfl rfl ?_
            refine JL.call fb66 rfl rfl (show Calls Try.prog 66 _ _ (fun e w' => PatR _ w' [] (zQP, (7 : Int)) e) from by
              have h9 := meet66_c g _ (cutR 1 g ⟨t, l, r, b, off⟩ q).1.time (cutR 2 g ⟨t, l, r, b, off⟩ q).1.time _ _ _ _ _ _ (cutR 1 g ⟨t, l, r, b, off⟩ q).1.l (cutR 1 g ⟨t, l, r, b, off⟩ q).1.r (cutR 1 g ⟨t, l, r, b, off⟩ q).1.b (cutR 2 g ⟨t, l, r, b, off⟩ q).1.l (cutR 2 g ⟨t, l, r, b, off⟩ q).1.r (cutR 2 g ⟨t, l, r, b, off⟩ q).1.b (cutR 1 g ⟨t, l, r, b, off⟩ q).1.off (cutR 2 g ⟨t, l, r, b, off⟩ q).1.off _ hsm (hl.grow H.below) hcl (runSl H (j := 12) rfl (big ln1.1)) (runSl H (j := 13) rfl (big ln1.2.1)) (runSl H (j := 14) rfl (big ln1.2.2)) (runSl H (j := 8) rfl (big ln2.1)) (runSl H (j := 9) rfl (big ln2.2.1)) (runSl H (j := 10) rfl (big ln2.2.2)) (H.rowCap (j := 12) rfl) (H.rowCap (j := 13) rfl) (H.rowCap (j := 14) rfl) (H.rowCap (j := 8) rfl) (H.rowCap (j := 9) rfl) (H.rowCap (j := 10) rfl)
              rw [L5] at h9
              exact h9) ?_
            rintro _ w19 ⟨va, vb, vc, rfl, K⟩
            obtain ⟨x4a, y4a, rfl⟩ := K.row_slice (j := 0) rfl
            obtain ⟨x4b, y4b, rfl⟩ := K.row_slice (j := 1) rfl
            obtain ⟨x4c, y4c, rfl⟩ := K.row_slice (j := 2) rfl
            have H := H.join K
            refine ⟨_, rfl, ?_⟩
            refine JL.pure rfl rfl ?_
            refine JL.pure rfl rfl ?_
            refine JL.pure rfl rfl ?_
            refine JL.alloc H z90 rfl ?_
            intro b22 w20 H
            refine JL.storeB 0 H rfl rfl sh90 rfl rfl rfl rfl rfl ?_
            intro w21 H
            refine JL.pure rfl rfl ?_
            refine JL.nil ?_
            ((repeat refine Ex.normal_block ?_); refine Ex.next ?_)
            ((repeat refine JC.seq ?_); refine JC.region ?_)
            refine JL.pure rfl rfl ?_
            refine JL.pure rfl rfl ?_
            refine JL.re 109 rfl (v' := .bool false) (rfl) ?_
            refine JL.pure rfl rfl ?_
            refine JL.re 110 rfl (v' := .bool false) (rfl) ?_
            refine JL.want rfl rfl ?_
            refine JL.pure rfl rfl ?_
            refine JL.want rfl rfl ?_
            refine JL.pure rfl rfl ?_
            refine JL.re 112 rfl (v' := .bool false) (congrArg Value.bool (by rw [L2]; rfl)) ?_
            refine JL.pure rfl rfl ?_
            refine JL.pure rfl rfl ?_
            refine JL.re 114 rfl (v' := .bool false) (rfl) ?_
            refine JL.want rfl rfl ?_
            refine JL.pure rfl rfl ?_
            refine JL.want rfl rfl ?_
            refine JL.pure rfl rfl ?_
            refine JL.re 116 rfl (v' := .bool false) (congrArg Value.bool (by rw [L3]; rfl)) ?_
            refine JL.pure rfl rfl ?_
            refine JL.pure rfl rfl ?_
            refine JL.re 118 rfl (v' := .bool false) (rfl) ?_
            refine JL.want rfl rfl ?_
            refine JL.pure rfl rfl ?_
            refine JL.want rfl rfl ?_
            refine JL.pure rfl rfl ?_
            refine JL.re 120 rfl (v' := .bool false) (congrArg Value.bool (by rw [L4]; rfl)) ?_
            refine JL.pure rfl rfl ?_
            refine JL.pure rfl rfl ?_
            refine JL.re 122 rfl (v' := .bool false) (rfl) ?_
            refine JL.want rfl rfl ?_
            refine JL.pure rfl rfl ?_
            refine JL.want rfl rfl ?_
            refine JL.pure rfl rfl ?_
            refine JL.re 124 rfl (v' := .bool false) (rfl) ?_
            refine JL.pure rfl rfl ?_
            refine JL.pure rfl rfl ?_
            refine JL.re 126 rfl (v' := .bool false) (rfl) ?_
            refine JL.want rfl rfl ?_
            refine JL.fieldAddr rfl Try.underlying90 rfl sh3 rfl ?_
            refine JL.want rfl rfl ?_
            refine JL.loadB 0 H rfl sh3 rfl rfl rfl ?_
            refine JL.want rfl rfl ?_
            refine JL.pure rfl rfl ?_
            refine JL.re 129 rfl (v' := .bool false) (rfl) ?_
            refine JL.pure rfl rfl ?_
            refine JL.pure rfl rfl ?_
            refine JL.re 131 rfl (v' := .bool false) (rfl) ?_
            refine JL.want rfl rfl ?_
            refine JL.loadB 7 H rfl sh90 rfl rfl rfl ?_
            refine JL.want rfl rfl ?_
            refine JL.loadB 21 H rfl sh90 rfl rfl rfl ?_
            refine JL.want rfl rfl ?_
            refine JL.callP H fb114 rfl rfl (same114_c t t _ _ _ _ _ _ l r b l r b off off _ (runSl H (j := 8) rfl h1.1) (runSl H (j := 9) rfl h2.1) (runSl H (j := 10) rfl h3.1) (h1.grow H.below) (h2.grow H.below) (h3.grow H.below)) ?_
            intro w22 H _
            refine JL.re 134 rfl (v' := .bool true) (by simp) ?_
            refine JL.want rfl rfl ?_
            refine JL.pure rfl rfl ?_
            refine JL.re 135 rfl (v' := .bool false) (rfl) ?_
            refine JL.pure rfl rfl ?_
            refine JL.pure rfl rfl ?_
            refine JL.re 137 rfl (v' := .bool false) (rfl) ?_
            refine JL.want rfl rfl ?_
            refine JL.pure rfl rfl ?_
            refine JL.want rfl rfl ?_
            refine JL.pure rfl rfl ?_
            refine JL.want rfl rfl ?_
            refine JL.callP H fb67 rfl rfl (same_c _ _ (whereR g (⟨(cutR 1 g ⟨t, l, r, b, off⟩ q).1.time, (cutR 1 g ⟨t, l, r, b, off⟩ q).1.l, (cutR 1 g ⟨t, l, r, b, off⟩ q).1.r, (cutR 1 g ⟨t, l, r, b, off⟩ q).1.b, (cutR 1 g ⟨t, l, r, b, off⟩ q).1.off⟩ : QP)).1 (bothR g (whereR g ⟨t, l, r, b, off⟩).1 q).1 _ (runSl H (j := 5) rfl (big (where_len _ _))) (runSl H (j := 4) rfl (big (bothR_len _ _ _)))) ?_
            intro w23 H _
            refine JL.re 140 rfl (v' := .bool true) (congrArg Value.bool (decide_eq_true L6)) ?_
            refine JL.want rfl rfl ?_
            refine JL.pure rfl rfl ?_
            refine JL.re 141 rfl (v' := .bool false) (rfl) ?_
            refine JL.pure rfl rfl ?_
            refine JL.nil ?_
            ((repeat refine Ex.normal_block ?_); refine Ex.next ?_)
            ((repeat refine JC.seq ?_); refine JC.cond rfl (fun h => by cases h) (fun _ => ?_))
            ((repeat refine JC.seq ?_); refine JC.skip ?_)
            ((repeat refine Ex.normal_block ?_); refine Ex.next ?_)
            ((repeat refine JC.seq ?_); refine JC.region ?_)
            refine JL.fieldAddr rfl Try.underlying90 rfl sh3 rfl ?_
            refine JL.loadB 21 H rfl sh3 rfl rfl rfl ?_
            refine JL.fieldAddr rfl Try.underlying90 rfl sh3 rfl ?_
            refine JL.storeB 20 H rfl rfl sh3 rfl rfl rfl rfl rfl ?_
            intro w24 H
            refine JL.nil ?_
            ((repeat refine Ex.normal_block ?_); refine Ex.next ?_)
            ((repeat refine JC.seq ?_); refine JC.region ?_)
            refine JL.loadB 22 H rfl sh52 rfl rfl rfl ?_
            refine JL.loadB 21 H rfl sh90 rfl rfl rfl ?_
            refine JL.loadB 20 H rfl sh90 rfl rfl rfl ?_
            have lnJ := pair_len 0 g ⟨t, l, r, b, off⟩ ⟨t, l', r', b', off'⟩ (off || off')
            refine JL.call fb112 rfl rfl (join112_c g _ t t _ _ _ _ _ _ l r b l' r' b' off off' _ (hl.grow H.below) hcl (h1.grow H.below) (h2.grow H.below) (h3.grow H.below) (k1.grow H.below) (k2.grow H.below) (k3.grow H.below) c1 c2 c3 c4 c5 c6) ?_
            rintro _ w25 ⟨va, vb, vc, rfl, K⟩
            obtain ⟨x5a, y5a, rfl⟩ := K.row_slice (j := 0) rfl
            obtain ⟨x5b, y5b, rfl⟩ := K.row_slice (j := 1) rfl
            obtain ⟨x5c, y5c, rfl⟩ := K.row_slice (j := 2) rfl
            have H := H.join K
            refine ⟨_, rfl, ?_⟩
            refine JL.pure rfl rfl ?_
            refine JL.pure rfl rfl ?_
            refine JL.pure rfl rfl ?_
            refine JL.alloc H z90 rfl ?_
            intro b24 w26 H
            refine JL.storeB 0 H rfl rfl sh90 rfl rfl rfl rfl rfl ?_
            intro w27 H
            refine JL.pure rfl rfl ?_
            refine JL.nil ?_
            ((repeat refine Ex.normal_block ?_); refine Ex.next ?_)
            ((repeat refine JC.seq ?_); refine JC.region ?_)
            refine JL.pure rfl rfl ?_
            refine JL.pure rfl rfl ?_
            refine JL.nil ?_
            ((repeat refine Ex.normal_block ?_); refine Ex.next ?_)
            ((repeat refine JC.seq ?_); refine JC.cond rfl ?_ ?_)
            · intro h154
              (try simp only [Bool.not_eq_true', Bool.not_eq_false', decide_eq_true_eq, decide_eq_false_iff_not] at h154)
              
              ((repeat refine JC.seq ?_); refine JC.region ?_)
              refine JL.pure rfl rfl ?_
              refine JL.pure rfl rfl ?_
              refine JL.nil ?_
              ((repeat refine Ex.normal_block ?_); refine Ex.next ?_)
              ((repeat refine JC.seq ?_); refine JC.ret ?_)
              (repeat (first | refine Ex.ret_then ?_ | refine Ex.ret_block ?_))
              refine Ex.ret1 rfl (.tmp rfl) ⟨rfl, H.below⟩
            · intro h154
              (try simp only [Bool.not_eq_true', Bool.not_eq_false', decide_eq_true_eq, decide_eq_false_iff_not] at h154)
              have hJ : (pairR 0 g ⟨t, l, r, b, off⟩ ⟨t, l', r', b', off'⟩ (off || off')).2 = 0 := by simpa using h154
              have hM := L7 ⟨t, l', r', b', off'⟩ hJ
              simp only at hM
              have lnM := meet_len g ⟨t, l, r, b, off⟩ (pairR 0 g ⟨t, l, r, b, off⟩ ⟨t, l', r', b', off'⟩ (off || off')).1
              ((repeat refine JC.seq ?_); refine JC.skip ?_)
              ((repeat refine Ex.normal_block ?_); refine Ex.next ?_)
              ((repeat refine JC.seq ?_); refine JC.region ?_)
              refine JL.loadB 26 H rfl sh52 rfl rfl rfl ?_
              refine JL.loadB 25 H rfl sh90 rfl rfl rfl ?_
              refine JL.loadB 0 H rfl sh90 rfl rfl rfl ?_
              refine JL.call fb66 rfl rfl (meet66_c g _ t (pairR 0 g ⟨t, l, r, b, off⟩ ⟨t, l', r', b', off'⟩ (off || off')).1.time _ _ _ _ _ _ l r b (pairR 0 g ⟨t, l, r, b, off⟩ ⟨t, l', r', b', off'⟩ (off || off')).1.l (pairR 0 g ⟨t, l, r, b, off⟩ ⟨t, l', r', b', off'⟩ (off || off')).1.r (pairR 0 g ⟨t, l, r, b, off⟩ ⟨t, l', r', b', off'⟩ (off || off')).1.b off (pairR 0 g ⟨t, l, r, b, off⟩ ⟨t, l', r', b', off'⟩ (off || off')).1.off _ hsm (hl.grow H.below) hcl (h1.grow H.below) (h2.grow H.below) (h3.grow H.below) (runSl H (j := 1) rfl (big lnJ.1)) (runSl H (j := 2) rfl (big lnJ.2.1)) (runSl H (j := 3) rfl (big lnJ.2.2)) c1 c2 c3 (H.rowCap (j := 1) rfl) (H.rowCap (j := 2) rfl) (H.rowCap (j := 3) rfl)) ?_
              rintro _ w28 ⟨va, vb, vc, rfl, K⟩
              obtain ⟨x6a, y6a, rfl⟩ := K.row_slice (j := 0) rfl
              obtain ⟨x6b, y6b, rfl⟩ := K.row_slice (j := 1) rfl
              obtain ⟨x6c, y6c, rfl⟩ := K.row_slice (j := 2) rfl
              have H := H.join K
              refine ⟨_, rfl, ?_⟩
              refine JL.pure rfl rfl ?_
              refine JL.pure rfl rfl ?_
              refine JL.pure rfl rfl ?_
              refine JL.alloc H z90 rfl ?_
              intro b26 w29 H
              refine JL.storeB 0 H rfl rfl sh90 rfl rfl rfl rfl rfl ?_
              intro w30 H
              refine JL.pure rfl rfl ?_
              refine JL.nil ?_
              ((repeat refine Ex.normal_block ?_); refine Ex.next ?_)
              ((repeat refine JC.seq ?_); refine JC.region ?_)
              refine JL.fieldAddr rfl Try.underlying90 rfl sh50 rfl ?_
              refine JL.loadB 29 H rfl sh50 rfl rfl rfl ?_
              refine JL.len rfl Try.underlying50 rfl ?_
              refine JL.fieldAddr rfl Try.underlying90 rfl sh50 rfl ?_
              refine JL.loadB 29 H rfl sh50 rfl rfl rfl ?_
              refine JL.len rfl Try.underlying50 rfl ?_
              refine JL.arith rfl (by unfold In64; omega) rfl ?_
              refine JL.fieldAddr rfl Try.underlying90 rfl sh50 rfl ?_
              refine JL.loadB 29 H rfl sh50 rfl rfl rfl ?_
              refine JL.len rfl Try.underlying50 rfl ?_
              refine JL.arith rfl (by unfold In64; omega) rfl ?_
              refine JL.pure rfl rfl ?_
              refine JL.pure rfl rfl ?_
              refine JL.nil ?_
              ((repeat refine Ex.normal_block ?_); refine Ex.next ?_)
              ((repeat refine JC.seq ?_); refine JC.region ?_)
              refine JL.pure rfl rfl ?_
              refine JL.pure rfl rfl ?_
              refine JL.re 176 rfl (v' := .bool true) (rfl) ?_
              refine JL.want rfl rfl ?_
              refine JL.pure rfl rfl ?_
              refine JL.want rfl rfl ?_
              refine JL.pure rfl rfl ?_
              refine JL.want rfl rfl ?_
              refine JL.pure rfl rfl ?_
              refine JL.cases 179 rfl ?_ ?_
              · intro h179
                (try simp only [Bool.not_eq_true', Bool.not_eq_false', decide_eq_true_eq, decide_eq_false_iff_not] at h179)
                have hemp : emptyQ ⟨t, l, r, b, off⟩ = true := by
                  rcases hM with h | h
                  · exact h.1
                  · rw [h] at h179; simp at h179
                unfold emptyQ at hemp
                simp only at hemp
                refine JL.want rfl rfl ?_
                refine JL.pure rfl rfl ?_
                refine JL.re 180 rfl (v' := .bool true) (congrArg Value.bool (decide_eq_true (by have := of_decide_eq_true hemp; omega))) ?_
                refine JL.want rfl rfl ?_
                refine JL.pure rfl rfl ?_
                refine JL.want rfl rfl ?_
                refine JL.pure rfl rfl ?_
                refine JL.re 182 rfl (v' := .bool true) (rfl) ?_
                refine JL.pass rfl rfl rfl rfl ?_
                refine JL.pass rfl rfl rfl rfl ?_
                refine JL.pass rfl rfl rfl rfl ?_
                refine JL.passU rfl rfl rfl ?_
                refine JL.passU rfl rfl rfl ?_
                refine JL.passU rfl rfl rfl ?_
                refine JL.pass rfl rfl rfl rfl ?_
                refine JL.want rfl rfl ?_
                refine JL.pure rfl rfl ?_
                refine JL.pure rfl rfl ?_
                refine JL.pure rfl rfl ?_
                refine JL.nil ?_
                ((repeat refine Ex.normal_block ?_); refine Ex.next ?_)
                ((repeat refine JC.seq ?_); refine JC.ret ?_)
                (repeat (first | refine Ex.ret_then ?_ | refine Ex.ret_block ?_))
                refine Ex.ret1 rfl (.tmp rfl) ⟨rfl, H.below⟩
              · intro h179
                (try simp only [Bool.not_eq_true', Bool.not_eq_false', decide_eq_true_eq, decide_eq_false_iff_not] at h179)
                have hMe : (meetPR g ⟨t, l, r, b, off⟩ (pairR 0 g ⟨t, l, r, b, off⟩ ⟨t, l', r', b', off'⟩ (off || off')).1) = (⟨t, l, r, b, off⟩, 0) := by
                  rcases hM with h | h
                  · exact absurd h.2 (by simpa using h179)
                  · exact h
                refine JL.pass rfl rfl rfl rfl ?_
                refine JL.want rfl rfl ?_
                refine JL.pure rfl rfl ?_
                refine JL.want rfl rfl ?_
                refine JL.pure rfl rfl ?_
                refine JL.re 182 rfl (v' := .bool false) (rfl) ?_
                refine JL.want rfl rfl ?_
                refine JL.pure rfl rfl ?_
                refine JL.want rfl rfl ?_
                refine JL.pure rfl rfl ?_
                refine JL.re 184 rfl (v' := .bool true) (congrArg Value.bool (decide_eq_true (by rw [hMe]))) ?_
                refine JL.want rfl rfl ?_
                refine JL.pure rfl rfl ?_
                refine JL.re 185 rfl (v' := .bool true) (rfl) ?_
                refine JL.want rfl rfl ?_
                refine JL.loadB 0 H rfl sh90 rfl rfl rfl ?_
                refine JL.want rfl rfl ?_
                refine JL.loadB 29 H rfl sh90 rfl rfl rfl ?_
                refine JL.want rfl rfl ?_
                refine JL.callP H fb114 rfl rfl (same114_c (meetPR g ⟨t, l, r, b, off⟩ (pairR 0 g ⟨t, l, r, b, off⟩ ⟨t, l', r', b', off'⟩ (off || off')).1).1.time t _ _ _ _ _ _ (meetPR g ⟨t, l, r, b, off⟩ (pairR 0 g ⟨t, l, r, b, off⟩ ⟨t, l', r', b', off'⟩ (off || off')).1).1.l (meetPR g ⟨t, l, r, b, off⟩ (pairR 0 g ⟨t, l, r, b, off⟩ ⟨t, l', r', b', off'⟩ (off || off')).1).1.r (meetPR g ⟨t, l, r, b, off⟩ (pairR 0 g ⟨t, l, r, b, off⟩ ⟨t, l', r', b', off'⟩ (off || off')).1).1.b l r b (meetPR g ⟨t, l, r, b, off⟩ (pairR 0 g ⟨t, l, r, b, off⟩ ⟨t, l', r', b', off'⟩ (off || off')).1).1.off off _ (runSl H (j := 1) rfl (big lnM.1)) (runSl H (j := 2) rfl (big lnM.2.1)) (runSl H (j := 3) rfl (big lnM.2.2)) (h1.grow H.below) (h2.grow H.below) (h3.grow H.below)) ?_
                intro w31 H _
                refine JL.re 188 rfl (v' := .bool true) (congrArg Value.bool (decide_eq_true (by rw [hMe]; simp))) ?_
                refine JL.want rfl rfl ?_
                refine JL.pure rfl rfl ?_
                refine JL.want rfl rfl ?_
                refine JL.pure rfl rfl ?_
                refine JL.pure rfl rfl ?_
                refine JL.pure rfl rfl ?_
                refine JL.nil ?_
                ((repeat refine Ex.normal_block ?_); refine Ex.next ?_)
                ((repeat refine JC.seq ?_); refine JC.ret ?_)
                (repeat (first | refine Ex.ret_then ?_ | refine Ex.ret_block ?_))
                refine Ex.ret1 rfl (.tmp rfl) ⟨rfl, H.below⟩
end Go.J

namespace Go.J
set_option linter.unusedSimpArgs false
set_option linter.unusedVariables false
open Go.RowKit Go.Proofs Go.ChangeShapes
set_option maxRecDepth 8000
theorem list_of {α : Type} {p : Nat → α → Prop} : ∀ n : Nat, (∀ i, i < n → ∃ x, p i x) → ∃ l : List α, l.length = n ∧ ∀ i x, l[i]? = some x → p i x := by
  intro n
  induction n with
  | zero => intro _; exact ⟨[], rfl, fun i x h => by simp at h⟩
  | succ n ih =>
    intro h
    obtain ⟨l, h1, h2⟩ := ih fun i hi => h i (by omega)
    obtain ⟨x, hx⟩ := h n (by omega)
    refine ⟨l ++ [x], by simp [h1], fun i y hy => ?_⟩
    rcases Nat.lt_or_ge i n with hi | hi
    · rw [List.getElem?_append_left (by omega)] at hy; exact h2 i y hy
    · rw [List.getElem?_append_right (by omega)] at hy
      have : i = n := by
        rcases Nat.eq_or_lt_of_le hi with h | h
        · exact h.symm
        · rw [List.getElem?_eq_none (by simp; omega)] at hy; cases hy
      subst this
      simp [h1] at hy
      subst hy
      exact hx
theorem cells3 {w : World} {base : Nat} {A : Addr} {u0 u1 u2 : Value} (h : w.cells? base A 3 = some [u0, u1, u2]) : w.cell? A = some u0 ∧ w.cell? (A.add 1) = some u1 ∧ w.cell? (A.add 2) = some u2 := by
  unfold World.cells? at h
  split at h
  · have e : List.range 3 = [0, 1, 2] := rfl
    rw [e] at h
    simp only [List.mapM_cons, List.mapM_nil] at h
    have e0 : A.add 0 = A := rfl
    rw [e0] at h
    cases h0 : w.cell? A with
    | none => rw [h0] at h; cases h
    | some x0 => cases h1 : w.cell? (A.add 1) with
      | none => rw [h0, h1] at h; cases h
      | some x1 => cases h2 : w.cell? (A.add 2) with
        | none => rw [h0, h1, h2] at h; cases h
        | some x2 =>
          rw [h0, h1, h2] at h
          have h' : some [x0, x1, x2] = some [u0, u1, u2] := h
          cases h'
          exact ⟨rfl, rfl, rfl⟩
  · cases h
theorem open_runs {H : Type} {enc : TypeId × Value → H} {w : World} {base : Nat} {spare : Nat → Bool} {held : Bool} {fuel : Nat} {v : Value} {x : DataW H × List MemPlace} (h : DataW.trod enc Try.prog w base spare held fuel 50 [v] = some x) :
    ∃ rs : List Run, SlR w v rs ∧ capOK v := by
  rcases Go.Deep.open_slice Try.underlying50 h with ⟨h1, _⟩ | ⟨a, len, cap, m, n, D, Pl, h1, hb, hl, hm, hmm, _, hx⟩
  · cases h1
    exact ⟨[], ⟨by simp, none, 0, rfl, .inl rfl⟩, Nat.le_refl _⟩
  · cases h1
    have hc : Try.prog.cellsOf 140 = 3 := by kernel_rfl
    rw [hc] at hx
    have hlm : len ≤ m := by rw [hmm]; split <;> omega
    have hget : ∀ i, i < len → ∃ r : Run, ∃ cs', cs' = Run.cs r ∧ w.cells? base (a.add (i * 3)) 3 = some cs' := by
      intro i hi
      obtain ⟨cs', h2, h3⟩ := hx i (by omega)
      obtain ⟨y0, y1, y2, k, _, hlen, g0, g1, g2⟩ := Go.Deep.trod_struct3 Try.underlying140 h3
      have hc3 : Try.prog.cellsOf 3 = 1 := by kernel_rfl
      rw [hc] at hlen
      match cs', hlen with
      | [c0, c1, c2], _ =>
        simp only [hc3] at g0 g1 g2
        obtain ⟨n0, e0, _, _⟩ := DataW.trod_int Try.underlying3 g0
        obtain ⟨n1, e1, _, _⟩ := DataW.trod_int Try.underlying3 g1
        obtain ⟨n2, e2, _, _⟩ := DataW.trod_int Try.underlying3 g2
        simp at e0 e1 e2
        subst e0 e1 e2
        exact ⟨⟨n0, n1, n2⟩, _, rfl, h2⟩
    obtain ⟨rs, hl1, hl2⟩ := list_of len hget
    refine ⟨rs, ?_, hl⟩
    refine ⟨by rw [hl1]; simp only [maxLen] at hm; omega, some a, cap, by rw [hl1], ?_⟩
    by_cases h0 : rs = []
    · exact .inl h0
    · right
      have hpos : 0 < rs.length := List.length_pos_iff.2 h0
      obtain ⟨cs0, q1, q2⟩ := hl2 0 rs[0] (by simp [hpos])
      subst q1
      have q3 := (cells3 q2).1
      have ha : a.add (0 * 3) = a := rfl
      rw [ha] at q3
      obtain ⟨β, off, spot⟩ := a
      have hsp : spot = none := by
        cases spot with
        | none => rfl
        | some z => simp only [World.cell?] at q3; split at q3 <;> simp at q3
      subst hsp
      have hadd : ∀ k, (⟨β, off, none⟩ : Addr).add k = ⟨β, off + k, none⟩ := by
        intro k; unfold Addr.add; split <;> simp_all
      refine ⟨β, off, rfl, ?_, fun i r hr => ?_⟩
      · simp only [World.cell?] at q3
        rcases Nat.lt_or_ge β w.heap.size with hb2 | hb2
        · exact hb2
        · rw [Array.getElem?_eq_none hb2] at q3; cases q3
      · obtain ⟨csi, p1, p2⟩ := hl2 i r hr
        subst p1
        obtain ⟨r0, r1, r2⟩ := cells3 p2
        rw [hadd] at r0 r1 r2
        rw [show (⟨β, off + i * 3, none⟩ : Addr).add 1 = ⟨β, off + i * 3 + 1, none⟩ by unfold Addr.add; simp] at r1
        rw [show (⟨β, off + i * 3, none⟩ : Addr).add 2 = ⟨β, off + i * 3 + 2, none⟩ by unfold Addr.add; simp] at r2
        refine ⟨r.cs, rfl, rfl, fun q u hq => ?_⟩
        match q, hq with
        | 0, hq => cases hq; exact r0
        | 1, hq => cases hq; exact r1
        | 2, hq => cases hq; exact r2
section
variable {H : Type} {enc : TypeId × Value → H} {W : World} {base b0 : Nat} {spare : Nat → Bool} {held : Bool} {r : Reach} {v : Value} {d : DataW H} {p : List MemPlace}
theorem wf64 {n : Int} (h : (Lit.int .i64 n).wf = true) : In64 n := by
  have := bounds_i64 h
  unfold In64
  omega
theorem open_runsA (hv : Value.okWide Try.prog W r b0 50 v) (h : DataW.Trod enc Try.prog W base spare held 50 v d p) : ∃ rs : List Run, SlR W v rs ∧ capOK v := by
  obtain ⟨m, hm⟩ := h
  obtain ⟨a, l, c, rfl⟩ := Go.WideShapes.okWide_slice Try.underlying50 hv
  exact open_runs hm
theorem open_grid (hv : Value.okWide Try.prog W r b0 52 v) (h : DataW.Trod enc Try.prog W base spare held 52 v d p) : ∃ (g : Grid) (lv : Value), v = g.ev lv ∧ SlR W lv g.land ∧ capOK lv ∧ In64 g.W ∧ In64 g.H ∧ In64 g.S := by
  obtain ⟨v0, v1, v2, v3, y0, y1, y2, y3, n, rfl, _, _, h0, h1, h2, h3⟩ := Go.Joins.open_agg4 Try.underlying52 (by kernel_rfl) (by kernel_rfl) hv h
  obtain ⟨a, e0, _, wa⟩ := DataW.trod_int Try.underlying3 h0
  obtain ⟨b, e1, _, wb⟩ := DataW.trod_int Try.underlying3 h1
  obtain ⟨c, e2, _, wc⟩ := DataW.trod_int Try.underlying3 h2
  obtain ⟨rs, hs, hc⟩ := open_runs h3
  simp at e0 e1 e2
  subst e0 e1 e2
  exact ⟨⟨a, b, c, rs⟩, v3, rfl, hs, hc, wf64 wa, wf64 wb, wf64 wc⟩
end
end Go.J

namespace Go.J
set_option linter.unusedSimpArgs false
set_option linter.unusedVariables false
open Go.RowKit Go.Proofs Go.ChangeShapes
set_option maxRecDepth 8000
/-! ## arguments: seas, patches, picks -/
structure Picks where
  px : Int
  py : Int
  cx : Int
  cy : Int
  wx : Int
  wy : Int
  down : Int
  cross : Int
  way : Int
  ux : Bool
  uy : Bool
def Picks.cs (x : Picks) : List Value := [.int .u16 x.px, .int .u16 x.py, .int .u16 x.cx, .int .u16 x.cy, .int .u16 x.wx, .int .u16 x.wy, .int .u16 x.down, .int .u16 x.cross, .int .u16 x.way, .bool x.ux, .bool x.uy]
def Picks.ev (x : Picks) : Value := .agg ⟨x.cs⟩
def u16 (n : Int) : Prop := 0 ≤ n ∧ n ≤ 65535
def Picks.ok (x : Picks) : Prop := (u16 x.px ∧ u16 x.py) ∧ (u16 x.cx ∧ u16 x.cy) ∧ (u16 x.wx ∧ u16 x.wy) ∧ u16 x.down ∧ u16 x.cross ∧ u16 x.way

section
variable {H : Type} {enc : TypeId × Value → H} {w : World} {base : Nat} {spare : Nat → Bool} {held : Bool}
theorem trod_field {t : TypeId} {fs : Array Field} {fuel : Nat} {cs : List Value} {x : DataW H × List MemPlace} (ht : Try.prog.underlying t = some (.struct fs)) (h : DataW.trod enc Try.prog w base spare held fuel t cs = some x) (i : Nat) {f : Field} (hi' : fs.toList[i]? = some f) :
    ∃ y n, DataW.trod enc Try.prog w base spare held n f.type ((cs.drop f.offset).take (Try.prog.cellsOf f.type)) = some y := by
  have hi : fs[i]? = some f := by simpa using hi'
  obtain ⟨xs, n, _, _, _, hlen, hf⟩ := DataW.trod_struct ht h
  have h1 := hf i f hi
  have hlt : i < xs.length := by rw [hlen]; exact (Array.getElem?_eq_some_iff.1 hi).1
  rw [List.getElem?_eq_getElem hlt] at h1
  exact ⟨_, _, h1⟩
theorem trod_i64 {fuel : Nat} {v : Value} {x : DataW H × List MemPlace} (h : DataW.trod enc Try.prog w base spare held fuel 3 [v] = some x) : ∃ n, v = .int .i64 n ∧ In64 n := by
  obtain ⟨n, e, _, wf⟩ := DataW.trod_int Try.underlying3 h
  simp at e
  exact ⟨n, e, wf64 wf⟩
theorem trod_b {fuel : Nat} {v : Value} {x : DataW H × List MemPlace} (h : DataW.trod enc Try.prog w base spare held fuel 4 [v] = some x) : ∃ b, v = .bool b := by
  obtain ⟨b, e, _⟩ := DataW.trod_bool Try.underlying4 h
  simp at e
  exact ⟨b, e⟩
theorem co3 : Try.prog.cellsOf 3 = 1 := by kernel_rfl
theorem co4 : Try.prog.cellsOf 4 = 1 := by kernel_rfl
theorem co50 : Try.prog.cellsOf 50 = 1 := by kernel_rfl
theorem co90 : Try.prog.cellsOf 90 = 5 := by kernel_rfl
end
section
variable {H : Type} {enc : TypeId × Value → H} {W : World} {base b0 : Nat} {spare : Nat → Bool} {held : Bool} {r : Reach} {v : Value} {d : DataW H} {p : List MemPlace}
theorem open_patch (hv : Value.okWide Try.prog W r b0 90 v) (h : DataW.Trod enc Try.prog W base spare held 90 v d p) :
    ∃ q : Patch, v = q.ev ∧ q.is W ∧ (capOK q.lv ∧ capOK q.rv ∧ capOK q.bv) ∧ In64 q.time := by
  obtain ⟨⟨l⟩, rfl, hsz⟩ := Go.WideShapes.okWide_struct Try.underlying90 hv
  rw [co90] at hsz
  obtain ⟨fuel, hf⟩ := h
  match l, hsz with
  | [c0, c1, c2, c3, c4], _ =>
    simp only [Value.cells] at hf
    obtain ⟨_, _, g0⟩ := trod_field Try.underlying90 hf 0 rfl
    obtain ⟨_, _, g1⟩ := trod_field Try.underlying90 hf 1 rfl
    obtain ⟨_, _, g2⟩ := trod_field Try.underlying90 hf 2 rfl
    obtain ⟨_, _, g3⟩ := trod_field Try.underlying90 hf 3 rfl
    obtain ⟨_, _, g4⟩ := trod_field Try.underlying90 hf 4 rfl
    simp only [co3, co50, co4] at g0 g1 g2 g3 g4
    obtain ⟨n0, rfl, i0⟩ := trod_i64 (v := c0) g0
    obtain ⟨r1, s1, k1⟩ := open_runs (v := c1) g1
    obtain ⟨r2, s2, k2⟩ := open_runs (v := c2) g2
    obtain ⟨r3, s3, k3⟩ := open_runs (v := c3) g3
    obtain ⟨b, rfl⟩ := trod_b (v := c4) g4
    exact ⟨⟨n0, c1, r1, c2, r2, c3, r3, b⟩, rfl, ⟨s1, s2, s3⟩, ⟨k1, k2, k3⟩, i0⟩
end
end Go.J
