/-
  Lemmas for the statements of this seat; no statement is proved here. No condition.
-/
import Derived.Test.YtfbmgmdjaoackaaM6
import Derived.Test.YtfbmgmdjaoackaaM2
import Derived.Test.YtfbmgmdjaoackaaM3
import Derived.Deep.Slices
import Derived.Deep.Strs
import Derived.Lib.SmallJoins
import Derived.OpenShut
namespace Go.J
open Go.RowKit Go.Proofs
set_option maxRecDepth 8000
set_option linter.unusedSimpArgs false
set_option linter.unusedVariables false
/-! the statement DriftMore: its walk -/
def Patch.cs (p : Patch) : List Value := [.int .i64 p.time, p.lv, p.rv, p.bv, .bool p.off]
def fineR (l : List Run) : Prop := Tame l ∧ l.length ≤ 8192
theorem fine_nil : fineR [] := ⟨(fun r h => by cases h), by simp⟩
theorem fine_right {g : Grid} (hg : g.ok = true) {l : List Run} (h : rightB g.W g.H l = true) : fineR l := by
  obtain ⟨hW, hH, _, _⟩ := Grid.ok_b hg
  exact ⟨tame_right hW.2 (right_iff.1 h).1, (right_iff.1 h).2⟩
theorem step_fine {g : Grid} (hs : g.ok = true → g.W * g.H ≤ 4096) (cu wi : List Flow) (d : Drifter) (p : QP) (sec : Int) : fineR (stepAllR g cu wi d p sec).1.l ∧ fineR (stepAllR g cu wi d p sec).1.r ∧ fineR (stepAllR g cu wi d p sec).1.b := by
  unfold stepAllR
  split
  · rename_i h
    rw [Bool.and_eq_true] at h
    obtain ⟨hg, _⟩ := patR_ok hs h.2
    unfold stepR
    split
    · exact ⟨fine_nil, fine_nil, fine_nil⟩
    · split
      · exact ⟨fine_nil, fine_nil, fine_nil⟩
      · unfold stepQ
        exact ⟨fine_right hg (runsR_small hg (hs hg) _).2.1, fine_right hg (runsR_small hg (hs hg) _).2.1, fine_right hg (runsR_small hg (hs hg) _).2.1⟩
  · exact ⟨fine_nil, fine_nil, fine_nil⟩
theorem cut_fine {g : Grid} (hs : g.ok = true → g.W * g.H ≤ 4096) (n : Int) (p : QP) (r : List Run) : fineR (cutR n g p r).1.l ∧ fineR (cutR n g p r).1.r ∧ fineR (cutR n g p r).1.b := by
  rcases cutR_ok (n := n) hs (p := p) (r := r) with ⟨e, _⟩ | ⟨hp, hr, e⟩
  · rw [e]; exact ⟨fine_nil, fine_nil, fine_nil⟩
  · obtain ⟨hg, _, ⟨a1, a2, a3⟩, _⟩ := patR_ok hs hp
    rw [e]
    exact ⟨fine_right hg (two_ok hg (hs hg) n a1 hr).2.1, fine_right hg (two_ok hg (hs hg) n a2 hr).2.1, fine_right hg (two_ok hg (hs hg) n a3 hr).2.1⟩
theorem sea_bd {g : Grid} {cu wi : List Flow} {d : Drifter} {p : QP} {sec : Int} (h : (stepAllR g cu wi d p sec).2 = 0) : (0 ≤ d.dl ∧ d.dl ≤ d.dh ∧ d.dh ≤ 1000) ∧ 0 ≤ d.cl ∧ d.cl ≤ d.ch ∧ d.ch ≤ 1000 := by
  unfold stepAllR at h
  split at h
  · rename_i hv
    rw [Bool.and_eq_true] at hv
    have := hv.1
    unfold seaB Drifter.ok at this
    simp only [Bool.and_eq_true, decide_eq_true_eq] at this
    omega
  · cases h
theorem dmore_c (g : Grid) (lv cv wv : Value) (cu wi : List Flow) (d : Drifter) (t : Int) (lf rf bf qv : Value) (l r b q : List Run) (off : Bool) (sec n0 n1 n2 n3 : Int) (w : World) (hl : SlR w lv g.land) (hcl : capOK lv) (hc : FlowsIs w cv cu) (hw : FlowsIs w wv wi) (h1 : SlR w lf l) (h2 : SlR w rf r) (h3 : SlR w bf b)
    (c1 : capOK lf) (c2 : capOK rf) (c3 : capOK bf) (hq : SlR w qv q) (c4 : capOK qv) (u0 : u16' n0) (u1 : u16' n1) (u2 : u16' n2) (u3 : u16' n3) :
    Calls Try.prog 23 #[seaEv g lv cv wv d, Patch.ev ⟨t, lf, l, rf, r, bf, b, off⟩, qv, .int .i64 sec, .agg ⟨[.int .u16 n0, .int .u16 n1, .int .u16 n2, .int .u16 n3]⟩] w (fun e w' => e = .returned (.bool true) ∧ Below w.heap.size w w') := by
  obtain ⟨la, lc, rfl⟩ := hl.len
  obtain ⟨ca, cc, rfl⟩ := hc.1.len
  obtain ⟨wa, wc, rfl⟩ := hw.1.len
  obtain ⟨a1, d1, rfl⟩ := h1.len
  obtain ⟨a2, d2, rfl⟩ := h2.len
  obtain ⟨a3, d3, rfl⟩ := h3.len
  obtain ⟨qa, qc, rfl⟩ := hq.len
  refine calls_J (args := [.agg ⟨[.int .i64 g.W, .int .i64 g.H, .int .i64 g.S, .slice la g.land.length lc, .slice ca cu.length cc, .slice wa wi.length wc, .int .i64 d.dl, .int .i64 d.dh, .int .i64 d.cl, .int .i64 d.ch, .bool d.jibes]⟩, .agg ⟨[.int .i64 t, .slice a1 l.length d1, .slice a2 r.length d2, .slice a3 b.length d3, .bool off]⟩, .slice qa q.length qc, .int .i64 sec, .agg ⟨[.int .u16 n0, .int .u16 n1, .int .u16 n2, .int .u16 n3]⟩]) Try.func23 rfl Try.ntmps23 rfl ?_
  have H := Own.start w
  ((repeat refine JC.seq ?_); refine JC.region ?_)
  refine JL.box H rfl rfl rfl ?_
  intro b5 w1 H
  refine JL.box H rfl rfl rfl ?_
  intro b6 w2 H
  refine JL.box H rfl rfl rfl ?_
  intro b9 w3 H
  refine JL.pure rfl rfl ?_
  refine JL.nil ?_
  ((repeat refine Ex.normal_block ?_); refine Ex.next ?_)
  ((repeat refine JC.seq ?_); refine JC.region ?_)
  refine JL.callP H fb60 rfl rfl (alive60_c _) ?_
  intro w4 H _
  refine JL.pure rfl rfl ?_
  refine JL.nil ?_
  ((repeat refine Ex.normal_block ?_); refine Ex.next ?_)
  ((repeat refine JC.seq ?_); refine JC.region ?_)
  refine JL.fieldAddr rfl Try.underlying88 rfl sh52 rfl ?_
  refine JL.loadB 2 H rfl sh52 rfl rfl rfl ?_
  refine JL.fieldAddr rfl Try.underlying88 rfl sh84 rfl ?_
  refine JL.loadB 2 H rfl sh84 rfl rfl rfl ?_
  refine JL.loadB 1 H rfl sh90 rfl rfl rfl ?_
  refine JL.buildSlice H Try.underlying216 sh90 z90 rfl rfl rfl rfl rfl ?_
  intro b27 w5 H
  refine JL.call fb61 rfl rfl (great04_c g _ 200 _ _ _ cu wi [⟨t, _, l, _, r, _, b, off⟩] _ (hl.grow H.below) (hc.grow H.below) (hw.grow H.below) (H.blkSl (j := 0) (enc := Patch.cs) rfl [⟨t, .slice a1 l.length d1, l, .slice a2 r.length d2, r, .slice a3 b.length d3, b, off⟩] rfl (fun _ => rfl) (by simp)) (fun p9 hp9 => by
    simp only [List.mem_singleton] at hp9
    subst hp9
    exact ⟨h1.grow H.below, h2.grow H.below, h3.grow H.below⟩)) ?_
  rintro _ w6 ⟨gb, rfl, hgb, K⟩
  have H := H.grow K
  refine ⟨_, rfl, ?_⟩
  refine JL.pure rfl rfl ?_
  refine JL.cases 29 rfl ?_ ?_
  · intro h29
    (try simp only [Bool.not_eq_true', Bool.not_eq_false', decide_eq_true_eq, decide_eq_false_iff_not] at h29)
    refine JL.pass rfl rfl rfl rfl ?_
    refine JL.pass rfl rfl rfl rfl ?_
    refine JL.pass rfl rfl rfl rfl ?_
    refine JL.pure rfl rfl ?_
    refine JL.pure rfl rfl ?_
    refine JL.pass rfl rfl rfl rfl ?_
    refine JL.pass rfl rfl rfl rfl ?_
    refine JL.pure rfl rfl ?_
    refine JL.nil ?_
    ((repeat refine Ex.normal_block ?_); refine Ex.next ?_)
    ((repeat refine JC.seq ?_); refine JC.cond rfl (fun _ => ?_) (fun h => by cases h))
    ((repeat refine JC.seq ?_); refine JC.region ?_)
    refine JL.pure rfl rfl ?_
    refine JL.pure rfl rfl ?_
    refine JL.nil ?_
    ((repeat refine Ex.normal_block ?_); refine Ex.next ?_)
    ((repeat refine JC.seq ?_); refine JC.ret ?_)
    (repeat (first | refine Ex.ret_then ?_ | refine Ex.ret_block ?_))
    refine Ex.ret1 rfl (.tmp rfl) ⟨rfl, H.below⟩
  · intro h29
    (try simp only [Bool.not_eq_true', Bool.not_eq_false', decide_eq_true_eq, decide_eq_false_iff_not] at h29)
    refine JL.want rfl rfl ?_
    refine JL.pure rfl rfl ?_
    refine JL.want rfl rfl ?_
    refine JL.len rfl Try.underlying50 rfl ?_
    refine JL.want rfl rfl ?_
    refine JL.pure rfl rfl ?_
    refine JL.pure rfl rfl ?_
    refine JL.pure rfl rfl ?_
    refine JL.cases 34 rfl ?_ ?_
    · intro h34
      (try simp only [Bool.not_eq_true', Bool.not_eq_false', decide_eq_true_eq, decide_eq_false_iff_not] at h34)
      refine JL.pass rfl rfl rfl rfl ?_
      refine JL.pass rfl rfl rfl rfl ?_
      refine JL.pure rfl rfl ?_
      refine JL.nil ?_
      ((repeat refine Ex.normal_block ?_); refine Ex.next ?_)
      ((repeat refine JC.seq ?_); refine JC.cond rfl (fun _ => ?_) (fun h => by cases h))
      ((repeat refine JC.seq ?_); refine JC.region ?_)
      refine JL.pure rfl rfl ?_
      refine JL.pure rfl rfl ?_
      refine JL.nil ?_
      ((repeat refine Ex.normal_block ?_); refine Ex.next ?_)
      ((repeat refine JC.seq ?_); refine JC.ret ?_)
      (repeat (first | refine Ex.ret_then ?_ | refine Ex.ret_block ?_))
      refine Ex.ret1 rfl (.tmp rfl) ⟨rfl, H.below⟩
    · intro h34
      (try simp only [Bool.not_eq_true', Bool.not_eq_false', decide_eq_true_eq, decide_eq_false_iff_not] at h34)
      refine JL.want rfl rfl ?_
      refine JL.pure rfl rfl ?_
      refine JL.want rfl rfl ?_
      refine JL.pure rfl rfl ?_
      refine JL.pure rfl rfl ?_
      refine JL.nil ?_
      ((repeat refine Ex.normal_block ?_); refine Ex.next ?_)
      ((repeat refine JC.seq ?_); refine JC.cond rfl ?_ ?_)
      · intro h37
        (try simp only [Bool.not_eq_true', Bool.not_eq_false', decide_eq_true_eq, decide_eq_false_iff_not] at h37)
        ((repeat refine JC.seq ?_); refine JC.region ?_)
        refine JL.pure rfl rfl ?_
        refine JL.pure rfl rfl ?_
        refine JL.nil ?_
        ((repeat refine Ex.normal_block ?_); refine Ex.next ?_)
        ((repeat refine JC.seq ?_); refine JC.ret ?_)
        (repeat (first | refine Ex.ret_then ?_ | refine Ex.ret_block ?_))
        refine Ex.ret1 rfl (.tmp rfl) ⟨rfl, H.below⟩
      · intro h37
        (try simp only [Bool.not_eq_true', Bool.not_eq_false', decide_eq_true_eq, decide_eq_false_iff_not] at h37)
        ((repeat refine JC.seq ?_); refine JC.skip ?_)
        ((repeat refine Ex.normal_block ?_); refine Ex.next ?_)
        ((repeat refine JC.seq ?_); refine JC.region ?_)
        refine JL.fieldAddr rfl Try.underlying88 rfl sh52 rfl ?_
        refine JL.loadB 3 H rfl sh52 rfl rfl rfl ?_
        refine JL.loadB 2 H rfl sh90 rfl rfl rfl ?_
        refine JL.pure rfl rfl ?_
        have hsm : g.ok = true → g.W * g.H ≤ 4096 := by
          have hg9 := hgb (by simpa using h29)
          have := (great_small hg9).1
          intro hok; have := this hok; omega
        refine JL.call fb103 rfl rfl (within103_c g _ t _ _ _ _ l r b q off _ (hl.grow H.below) hcl (h1.grow H.below) (h2.grow H.below) (h3.grow H.below) (hq.grow H.below) c1 c2 c3 c4) ?_
        rintro _ w7 ⟨va, vb, vc, rfl, K⟩
        obtain ⟨x1a, y1a, rfl⟩ := K.row_slice (j := 0) rfl
        obtain ⟨x1b, y1b, rfl⟩ := K.row_slice (j := 1) rfl
        obtain ⟨x1c, y1c, rfl⟩ := K.row_slice (j := 2) rfl
        have H := H.join K
        refine ⟨_, rfl, ?_⟩
        refine JL.pure rfl rfl ?_
        refine JL.pure rfl rfl ?_
        refine JL.pure rfl rfl ?_
        refine JL.alloc H z90 rfl ?_
        intro b12 w8 H
        refine JL.storeB 0 H rfl rfl sh90 rfl rfl rfl rfl rfl ?_
        intro w9 H
        refine JL.pure rfl rfl ?_
        refine JL.nil ?_
        ((repeat refine Ex.normal_block ?_); refine Ex.next ?_)
        ((repeat refine JC.seq ?_); refine JC.region ?_)
        refine JL.fieldAddr rfl Try.underlying88 rfl sh52 rfl ?_
        refine JL.loadB 7 H rfl sh52 rfl rfl rfl ?_
        refine JL.fieldAddr rfl Try.underlying88 rfl sh84 rfl ?_
        refine JL.loadB 7 H rfl sh84 rfl rfl rfl ?_
        refine JL.fieldAddr rfl Try.underlying88 rfl sh86 rfl ?_
        refine JL.loadB 7 H rfl sh86 rfl rfl rfl ?_
        refine JL.loadB 6 H rfl sh90 rfl rfl rfl ?_
        refine JL.pure rfl rfl ?_
        refine JL.call fb64 rfl rfl (step64_c g _ _ _ cu wi d t _ _ _ l r b off sec _ (hl.grow H.below) hcl (hc.grow H.below) (hw.grow H.below) (h1.grow H.below) (h2.grow H.below) (h3.grow H.below) c1 c2 c3 hsm) ?_
        rintro _ w10 ⟨va, vb, vc, rfl, K⟩
        obtain ⟨x2a, y2a, rfl⟩ := K.row_slice (j := 0) rfl
        obtain ⟨x2b, y2b, rfl⟩ := K.row_slice (j := 1) rfl
        obtain ⟨x2c, y2c, rfl⟩ := K.row_slice (j := 2) rfl
        have H := H.join K
        refine ⟨_, rfl, ?_⟩
        refine JL.pure rfl rfl ?_
        refine JL.pure rfl rfl ?_
        refine JL.pure rfl rfl ?_
        refine JL.alloc H z90 rfl ?_
        intro b14 w11 H
        refine JL.storeB 0 H rfl rfl sh90 rfl rfl rfl rfl rfl ?_
        intro w12 H
        refine JL.pure rfl rfl ?_
        refine JL.nil ?_
        ((repeat refine Ex.normal_block ?_); refine Ex.next ?_)
        ((repeat refine JC.seq ?_); refine JC.region ?_)
        refine JL.pure rfl rfl ?_
        refine JL.pure rfl rfl ?_
        refine JL.pure rfl rfl ?_
        refine JL.cases 61 rfl ?_ ?_
        · intro h61
          (try simp only [Bool.not_eq_true', Bool.not_eq_false', decide_eq_true_eq, decide_eq_false_iff_not] at h61)
          refine JL.pass rfl rfl rfl rfl ?_
          refine JL.pass rfl rfl rfl rfl ?_
          refine JL.pure rfl rfl ?_
          refine JL.nil ?_
          ((repeat refine Ex.normal_block ?_); refine Ex.next ?_)
          ((repeat refine JC.seq ?_); refine JC.cond rfl (fun _ => ?_) (fun h => by cases h))
          ((repeat refine JC.seq ?_); refine JC.region ?_)
          refine JL.pure rfl rfl ?_
          refine JL.pure rfl rfl ?_
          refine JL.nil ?_
          ((repeat refine Ex.normal_block ?_); refine Ex.next ?_)
          ((repeat refine JC.seq ?_); refine JC.ret ?_)
          (repeat (first | refine Ex.ret_then ?_ | refine Ex.ret_block ?_))
          refine Ex.ret1 rfl (.tmp rfl) ⟨rfl, H.below⟩
        · intro h61
          (try simp only [Bool.not_eq_true', Bool.not_eq_false', decide_eq_true_eq, decide_eq_false_iff_not] at h61)
          refine JL.want rfl rfl ?_
          refine JL.pure rfl rfl ?_
          refine JL.want rfl rfl ?_
          refine JL.pure rfl rfl ?_
          refine JL.pure rfl rfl ?_
          refine JL.nil ?_
          ((repeat refine Ex.normal_block ?_); refine Ex.next ?_)
          ((repeat refine JC.seq ?_); refine JC.cond rfl ?_ ?_)
          · intro h64
            (try simp only [Bool.not_eq_true', Bool.not_eq_false', decide_eq_true_eq, decide_eq_false_iff_not] at h64)
            
            ((repeat refine JC.seq ?_); refine JC.region ?_)
            refine JL.pure rfl rfl ?_
            refine JL.pure rfl rfl ?_
            refine JL.nil ?_
            ((repeat refine Ex.normal_block ?_); refine Ex.next ?_)
            ((repeat refine JC.seq ?_); refine JC.ret ?_)
            (repeat (first | refine Ex.ret_then ?_ | refine Ex.ret_block ?_))
            refine Ex.ret1 rfl (.tmp rfl) ⟨rfl, H.below⟩
          · intro h64
            (try simp only [Bool.not_eq_true', Bool.not_eq_false', decide_eq_true_eq, decide_eq_false_iff_not] at h64)
            have hz1 : (cutR 1 g ⟨t, l, r, b, off⟩ q).2 = 0 := by simp_all
            have hz2 : (stepAllR g cu wi d ⟨t, l, r, b, off⟩ sec).2 = 0 := by simp_all
            have hbd := sea_bd hz2
            have k0 := ofI_bd (low := d.dl) (high := d.dh + 1) (by omega) u0
            have k1 := ofI_bd (low := d.cl) (high := d.ch + 1) (by omega) u1
            have hlaw := dmore_law hsm u0 u1 u2 u3 hz1 hz2
            ((repeat refine JC.seq ?_); refine JC.skip ?_)
            ((repeat refine Ex.normal_block ?_); refine Ex.next ?_)
            ((repeat refine JC.seq ?_); refine JC.region ?_)
            refine JL.fieldAddr rfl Try.underlying88 rfl sh86 rfl ?_
            refine JL.loadB 11 H rfl sh86 rfl rfl rfl ?_
            refine JL.alloc H z86 rfl ?_
            intro b16 w13 H
            refine JL.storeB 0 H rfl rfl sh86 rfl rfl rfl rfl rfl ?_
            intro w14 H
            refine JL.nil ?_
            ((repeat refine Ex.normal_block ?_); refine Ex.next ?_)
            ((repeat refine JC.seq ?_); refine JC.draw 17 H mixed (by kernel_rfl) rfl ?_)
            refine JD.fieldAddr rfl Try.underlying86 rfl sh3 rfl ?_
            refine JD.loadB 0 rfl sh3 rfl rfl rfl ?_
            refine JD.fieldAddr rfl Try.underlying86 rfl sh3 rfl ?_
            refine JD.loadB 0 rfl sh3 rfl rfl rfl ?_
            refine JD.arith rfl (by unfold In64; omega) rfl ?_
            refine JD.indexA 0 rfl rfl Try.underlying163 sh153 rfl (by decide) rfl ?_
            refine JD.loadB 10 rfl sh153 rfl rfl rfl ?_
            refine JD.call fb104 rfl rfl (fun w hw => of104_c _ _ _ w u0 (by omega) (by omega)) ?_
            refine JD.fieldAddr rfl Try.underlying86 rfl sh3 rfl ?_
            refine JD.loadB 0 rfl sh3 rfl rfl rfl ?_
            refine JD.fieldAddr rfl Try.underlying86 rfl sh3 rfl ?_
            refine JD.loadB 0 rfl sh3 rfl rfl rfl ?_
            refine JD.arith rfl (by unfold In64; omega) rfl ?_
            refine JD.indexA 1 rfl rfl Try.underlying163 sh153 rfl (by decide) rfl ?_
            refine JD.loadB 10 rfl sh153 rfl rfl rfl ?_
            refine JD.call fb104 rfl rfl (fun w hw => of104_c _ _ _ w u1 (by omega) (by omega)) ?_
            refine JD.fieldAddr rfl Try.underlying86 rfl sh3 rfl ?_
            refine JD.nil ?_
            intro w15 H
            show JL _ _ _ _ _ _ _
            refine JL.storeB 0 H rfl rfl sh3 rfl rfl rfl rfl rfl ?_
            intro w16 H
            refine JL.fieldAddr rfl Try.underlying86 rfl sh3 rfl ?_
            refine JL.storeB 0 H rfl rfl sh3 rfl rfl rfl rfl rfl ?_
            intro w17 H
            refine JL.nil ?_
            ((repeat refine Ex.normal_block ?_); refine Ex.next ?_)
            ((repeat refine JC.seq ?_); refine JC.draw 17 H mixed (by kernel_rfl) rfl ?_)
            refine JD.fieldAddr rfl Try.underlying86 rfl sh3 rfl ?_
            refine JD.loadB 0 rfl sh3 rfl rfl rfl ?_
            refine JD.fieldAddr rfl Try.underlying86 rfl sh3 rfl ?_
            refine JD.loadB 0 rfl sh3 rfl rfl rfl ?_
            refine JD.arith rfl (by unfold In64; omega) rfl ?_
            refine JD.indexA 2 rfl rfl Try.underlying163 sh153 rfl (by decide) rfl ?_
            refine JD.loadB 10 rfl sh153 rfl rfl rfl ?_
            refine JD.call fb104 rfl rfl (fun w hw => of104_c _ _ _ w u2 (by omega) (by omega)) ?_
            refine JD.fieldAddr rfl Try.underlying86 rfl sh3 rfl ?_
            refine JD.loadB 0 rfl sh3 rfl rfl rfl ?_
            refine JD.fieldAddr rfl Try.underlying86 rfl sh3 rfl ?_
            refine JD.loadB 0 rfl sh3 rfl rfl rfl ?_
            refine JD.arith rfl (by unfold In64; omega) rfl ?_
            refine JD.indexA 3 rfl rfl Try.underlying163 sh153 rfl (by decide) rfl ?_
            refine JD.loadB 10 rfl sh153 rfl rfl rfl ?_
            refine JD.call fb104 rfl rfl (fun w hw => of104_c _ _ _ w u3 (by omega) (by omega)) ?_
            refine JD.fieldAddr rfl Try.underlying86 rfl sh3 rfl ?_
            refine JD.nil ?_
            intro w18 H
            show JL _ _ _ _ _ _ _
            refine JL.storeB 0 H rfl rfl sh3 rfl rfl rfl rfl rfl ?_
            intro w19 H
            refine JL.fieldAddr rfl Try.underlying86 rfl sh3 rfl ?_
            refine JL.storeB 0 H rfl rfl sh3 rfl rfl rfl rfl rfl ?_
            intro w20 H
            refine JL.nil ?_
            ((repeat refine Ex.normal_block ?_); refine Ex.next ?_)
            ((repeat refine JC.seq ?_); refine JC.region ?_)
            refine JL.fieldAddr rfl Try.underlying88 rfl sh52 rfl ?_
            refine JL.loadB 12 H rfl sh52 rfl rfl rfl ?_
            refine JL.fieldAddr rfl Try.underlying88 rfl sh84 rfl ?_
            refine JL.loadB 12 H rfl sh84 rfl rfl rfl ?_
            refine JL.fieldAddr rfl Try.underlying88 rfl sh86 rfl ?_
            refine JL.loadB 12 H rfl sh86 rfl rfl rfl ?_
            refine JL.loadB 5 H rfl sh90 rfl rfl rfl ?_
            refine JL.pure rfl rfl ?_
            refine JL.call fb64 rfl rfl (step64_c g _ _ _ cu wi d _ _ _ _ (cutR 1 g ⟨t, l, r, b, off⟩ q).1.l (cutR 1 g ⟨t, l, r, b, off⟩ q).1.r (cutR 1 g ⟨t, l, r, b, off⟩ q).1.b _ sec _ (hl.grow H.below) hcl (hc.grow H.below) (hw.grow H.below) (runSl H (j := 6) rfl (by have := (cut_fine hsm 1 ⟨t, l, r, b, off⟩ q).1.2; omega)) (runSl H (j := 7) rfl (by have := (cut_fine hsm 1 ⟨t, l, r, b, off⟩ q).2.1.2; omega)) (runSl H (j := 8) rfl (by have := (cut_fine hsm 1 ⟨t, l, r, b, off⟩ q).2.2.2; omega)) (H.rowCap (j := 6) rfl) (H.rowCap (j := 7) rfl) (H.rowCap (j := 8) rfl) hsm) ?_
            rintro _ w21 ⟨va, vb, vc, rfl, K⟩
            obtain ⟨x3a, y3a, rfl⟩ := K.row_slice (j := 0) rfl
            obtain ⟨x3b, y3b, rfl⟩ := K.row_slice (j := 1) rfl
            obtain ⟨x3c, y3c, rfl⟩ := K.row_slice (j := 2) rfl
            have H := H.join K
            refine ⟨_, rfl, ?_⟩
            refine JL.pure rfl rfl ?_
            refine JL.pure rfl rfl ?_
            refine JL.pure rfl rfl ?_
            refine JL.alloc H z90 rfl ?_
            intro b17 w22 H
            refine JL.storeB 0 H rfl rfl sh90 rfl rfl rfl rfl rfl ?_
            intro w23 H
            refine JL.pure rfl rfl ?_
            refine JL.nil ?_
            ((repeat refine Ex.normal_block ?_); refine Ex.next ?_)
            ((repeat refine JC.seq ?_); refine JC.region ?_)
            refine JL.fieldAddr rfl Try.underlying88 rfl sh52 rfl ?_
            refine JL.loadB 16 H rfl sh52 rfl rfl rfl ?_
            refine JL.fieldAddr rfl Try.underlying88 rfl sh84 rfl ?_
            refine JL.loadB 16 H rfl sh84 rfl rfl rfl ?_
            refine JL.loadB 4 H rfl sh86 rfl rfl rfl ?_
            refine JL.loadB 15 H rfl sh90 rfl rfl rfl ?_
            refine JL.pure rfl rfl ?_
            refine JL.call fb64 rfl rfl (step64_c g _ _ _ cu wi (narrowD d n0 n1 n2 n3) t _ _ _ l r b off sec _ (hl.grow H.below) hcl (hc.grow H.below) (hw.grow H.below) (h1.grow H.below) (h2.grow H.below) (h3.grow H.below) c1 c2 c3 hsm) ?_
            rintro _ w24 ⟨va, vb, vc, rfl, K⟩
            obtain ⟨x4a, y4a, rfl⟩ := K.row_slice (j := 0) rfl
            obtain ⟨x4b, y4b, rfl⟩ := K.row_slice (j := 1) rfl
            obtain ⟨x4c, y4c, rfl⟩ := K.row_slice (j := 2) rfl
            have H := H.join K
            refine ⟨_, rfl, ?_⟩
            refine JL.pure rfl rfl ?_
            refine JL.pure rfl rfl ?_
            refine JL.pure rfl rfl ?_
            refine JL.alloc H z90 rfl ?_
            intro b19 w25 H
            refine JL.storeB 0 H rfl rfl sh90 rfl rfl rfl rfl rfl ?_
            intro w26 H
            refine JL.pure rfl rfl ?_
            refine JL.nil ?_
            ((repeat refine Ex.normal_block ?_); refine Ex.next ?_)
            ((repeat refine JC.seq ?_); refine JC.region ?_)
            refine JL.pure rfl rfl ?_
            refine JL.pure rfl rfl ?_
            refine JL.re 128 rfl (v' := .bool true) (rfl) ?_
            refine JL.want rfl rfl ?_
            refine JL.pure rfl rfl ?_
            refine JL.want rfl rfl ?_
            refine JL.pure rfl rfl ?_
            refine JL.re 130 rfl (v' := .bool true) (congrArg Value.bool (decide_eq_true hlaw.1.1)) ?_
            refine JL.pure rfl rfl ?_
            refine JL.pure rfl rfl ?_
            refine JL.re 132 rfl (v' := .bool true) (rfl) ?_
            refine JL.want rfl rfl ?_
            refine JL.pure rfl rfl ?_
            refine JL.want rfl rfl ?_
            refine JL.pure rfl rfl ?_
            refine JL.re 134 rfl (v' := .bool true) (congrArg Value.bool (decide_eq_true hlaw.2.1)) ?_
            refine JL.pure rfl rfl ?_
            refine JL.pure rfl rfl ?_
            refine JL.re 136 rfl (v' := .bool true) (rfl) ?_
            refine JL.want rfl rfl ?_
            refine JL.loadB 4 H rfl sh90 rfl rfl rfl ?_
            refine JL.want rfl rfl ?_
            refine JL.loadB 9 H rfl sh90 rfl rfl rfl ?_
            refine JL.want rfl rfl ?_
            refine JL.callP H fb105 rfl rfl (part105_c _ _ _ _ _ _ _ _ _ _ _ _ _ _ _ _ _ (runSl H (j := 5) rfl (Nat.le_trans (step_fine hsm cu wi d (cutR 1 g ⟨t, l, r, b, off⟩ q).1 sec).1.2 (by decide))) (runSl H (j := 6) rfl (Nat.le_trans (step_fine hsm cu wi d (cutR 1 g ⟨t, l, r, b, off⟩ q).1 sec).2.1.2 (by decide))) (runSl H (j := 7) rfl (Nat.le_trans (step_fine hsm cu wi d (cutR 1 g ⟨t, l, r, b, off⟩ q).1 sec).2.2.2 (by decide))) (runSl H (j := 10) rfl (Nat.le_trans (step_fine hsm cu wi d ⟨t, l, r, b, off⟩ sec).1.2 (by decide))) (runSl H (j := 11) rfl (Nat.le_trans (step_fine hsm cu wi d ⟨t, l, r, b, off⟩ sec).2.1.2 (by decide))) (runSl H (j := 12) rfl (Nat.le_trans (step_fine hsm cu wi d ⟨t, l, r, b, off⟩ sec).2.2.2 (by decide))) (step_fine hsm cu wi d (cutR 1 g ⟨t, l, r, b, off⟩ q).1 sec).1.1 (step_fine hsm cu wi d (cutR 1 g ⟨t, l, r, b, off⟩ q).1 sec).2.1.1 (step_fine hsm cu wi d (cutR 1 g ⟨t, l, r, b, off⟩ q).1 sec).2.2.1 (step_fine hsm cu wi d ⟨t, l, r, b, off⟩ sec).1.1 (step_fine hsm cu wi d ⟨t, l, r, b, off⟩ sec).2.1.1 (step_fine hsm cu wi d ⟨t, l, r, b, off⟩ sec).2.2.1) ?_
            intro w27 H _
            refine JL.re 139 rfl (v' := .bool true) (congrArg Value.bool hlaw.1.2) ?_
            refine JL.pure rfl rfl ?_
            refine JL.pure rfl rfl ?_
            refine JL.re 141 rfl (v' := .bool true) (rfl) ?_
            refine JL.want rfl rfl ?_
            refine JL.loadB 0 H rfl sh90 rfl rfl rfl ?_
            refine JL.want rfl rfl ?_
            refine JL.loadB 9 H rfl sh90 rfl rfl rfl ?_
            refine JL.want rfl rfl ?_
            refine JL.callP H fb105 rfl rfl (part105_c _ _ _ _ _ _ _ _ _ _ _ _ _ _ _ _ _ (runSl H (j := 1) rfl (Nat.le_trans (step_fine hsm cu wi (narrowD d n0 n1 n2 n3) ⟨t, l, r, b, off⟩ sec).1.2 (by decide))) (runSl H (j := 2) rfl (Nat.le_trans (step_fine hsm cu wi (narrowD d n0 n1 n2 n3) ⟨t, l, r, b, off⟩ sec).2.1.2 (by decide))) (runSl H (j := 3) rfl (Nat.le_trans (step_fine hsm cu wi (narrowD d n0 n1 n2 n3) ⟨t, l, r, b, off⟩ sec).2.2.2 (by decide))) (runSl H (j := 10) rfl (Nat.le_trans (step_fine hsm cu wi d ⟨t, l, r, b, off⟩ sec).1.2 (by decide))) (runSl H (j := 11) rfl (Nat.le_trans (step_fine hsm cu wi d ⟨t, l, r, b, off⟩ sec).2.1.2 (by decide))) (runSl H (j := 12) rfl (Nat.le_trans (step_fine hsm cu wi d ⟨t, l, r, b, off⟩ sec).2.2.2 (by decide))) (step_fine hsm cu wi (narrowD d n0 n1 n2 n3) ⟨t, l, r, b, off⟩ sec).1.1 (step_fine hsm cu wi (narrowD d n0 n1 n2 n3) ⟨t, l, r, b, off⟩ sec).2.1.1 (step_fine hsm cu wi (narrowD d n0 n1 n2 n3) ⟨t, l, r, b, off⟩ sec).2.2.1 (step_fine hsm cu wi d ⟨t, l, r, b, off⟩ sec).1.1 (step_fine hsm cu wi d ⟨t, l, r, b, off⟩ sec).2.1.1 (step_fine hsm cu wi d ⟨t, l, r, b, off⟩ sec).2.2.1) ?_
            intro w28 H _
            refine JL.re 144 rfl (v' := .bool true) (congrArg Value.bool hlaw.2.2) ?_
            refine JL.pure rfl rfl ?_
            refine JL.pure rfl rfl ?_
            refine JL.nil ?_
            ((repeat refine Ex.normal_block ?_); refine Ex.next ?_)
            ((repeat refine JC.seq ?_); refine JC.ret ?_)
            (repeat (first | refine Ex.ret_then ?_ | refine Ex.ret_block ?_))
            refine Ex.ret1 rfl (.tmp rfl) ⟨rfl, H.below⟩
end Go.J

namespace Go.J
set_option linter.unusedSimpArgs false
set_option linter.unusedVariables false
open Go.RowKit Go.Proofs Go.ChangeShapes
set_option maxRecDepth 8000
theorem list_of {α : Type} {p : Nat → α → Prop} : ∀ n : Nat, (∀ i, i < n → ∃ x, p i x) → ∃ l : List α, l.length = n ∧ ∀ i x, l[i]? = some x → p i x := by
  intro n
  induction n with
  | zero => intro _; exact ⟨[], rfl, fun i x h => by simp at h⟩
  | succ n ih =>
    intro h
    obtain ⟨l, h1, h2⟩ := ih fun i hi => h i (by omega)
    obtain ⟨x, hx⟩ := h n (by omega)
    refine ⟨l ++ [x], by simp [h1], fun i y hy => ?_⟩
    rcases Nat.lt_or_ge i n with hi | hi
    · rw [List.getElem?_append_left (by omega)] at hy; exact h2 i y hy
    · rw [List.getElem?_append_right (by omega)] at hy
      have : i = n := by
        rcases Nat.eq_or_lt_of_le hi with h | h
        · exact h.symm
        · rw [List.getElem?_eq_none (by simp; omega)] at hy; cases hy
      subst this
      simp [h1] at hy
      subst hy
      exact hx
theorem cells3 {w : World} {base : Nat} {A : Addr} {u0 u1 u2 : Value} (h : w.cells? base A 3 = some [u0, u1, u2]) : w.cell? A = some u0 ∧ w.cell? (A.add 1) = some u1 ∧ w.cell? (A.add 2) = some u2 := by
  unfold World.cells? at h
  split at h
  · have e : List.range 3 = [0, 1, 2] := rfl
    rw [e] at h
    simp only [List.mapM_cons, List.mapM_nil] at h
    have e0 : A.add 0 = A := rfl
    rw [e0] at h
    cases h0 : w.cell? A with
    | none => rw [h0] at h; cases h
    | some x0 => cases h1 : w.cell? (A.add 1) with
      | none => rw [h0, h1] at h; cases h
      | some x1 => cases h2 : w.cell? (A.add 2) with
        | none => rw [h0, h1, h2] at h; cases h
        | some x2 =>
          rw [h0, h1, h2] at h
          have h' : some [x0, x1, x2] = some [u0, u1, u2] := h
          cases h'
          exact ⟨rfl, rfl, rfl⟩
  · cases h
theorem open_runs {H : Type} {enc : TypeId × Value → H} {w : World} {base : Nat} {spare : Nat → Bool} {held : Bool} {fuel : Nat} {v : Value} {x : DataW H × List MemPlace} (h : DataW.trod enc Try.prog w base spare held fuel 50 [v] = some x) :
    ∃ rs : List Run, SlR w v rs ∧ capOK v := by
  rcases Go.Deep.open_slice Try.underlying50 h with ⟨h1, _⟩ | ⟨a, len, cap, m, n, D, Pl, h1, hb, hl, hm, hmm, _, hx⟩
  · cases h1
    exact ⟨[], ⟨by simp, none, 0, rfl, .inl rfl⟩, Nat.le_refl _⟩
  · cases h1
    have hc : Try.prog.cellsOf 140 = 3 := by kernel_rfl
    rw [hc] at hx
    have hlm : len ≤ m := by rw [hmm]; split <;> omega
    have hget : ∀ i, i < len → ∃ r : Run, ∃ cs', cs' = Run.cs r ∧ w.cells? base (a.add (i * 3)) 3 = some cs' := by
      intro i hi
      obtain ⟨cs', h2, h3⟩ := hx i (by omega)
      obtain ⟨y0, y1, y2, k, _, hlen, g0, g1, g2⟩ := Go.Deep.trod_struct3 Try.underlying140 h3
      have hc3 : Try.prog.cellsOf 3 = 1 := by kernel_rfl
      rw [hc] at hlen
      match cs', hlen with
      | [c0, c1, c2], _ =>
        simp only [hc3] at g0 g1 g2
        obtain ⟨n0, e0, _, _⟩ := DataW.trod_int Try.underlying3 g0
        obtain ⟨n1, e1, _, _⟩ := DataW.trod_int Try.underlying3 g1
        obtain ⟨n2, e2, _, _⟩ := DataW.trod_int Try.underlying3 g2
        simp at e0 e1 e2
        subst e0 e1 e2
        exact ⟨⟨n0, n1, n2⟩, _, rfl, h2⟩
    obtain ⟨rs, hl1, hl2⟩ := list_of len hget
    refine ⟨rs, ?_, hl⟩
    refine ⟨by rw [hl1]; simp only [maxLen] at hm; omega, some a, cap, by rw [hl1], ?_⟩
    by_cases h0 : rs = []
    · exact .inl h0
    · right
      have hpos : 0 < rs.length := List.length_pos_iff.2 h0
      obtain ⟨cs0, q1, q2⟩ := hl2 0 rs[0] (by simp [hpos])
      subst q1
      have q3 := (cells3 q2).1
      have ha : a.add (0 * 3) = a := rfl
      rw [ha] at q3
      obtain ⟨β, off, spot⟩ := a
      have hsp : spot = none := by
        cases spot with
        | none => rfl
        | some z => simp only [World.cell?] at q3; split at q3 <;> simp at q3
      subst hsp
      have hadd : ∀ k, (⟨β, off, none⟩ : Addr).add k = ⟨β, off + k, none⟩ := by
        intro k; unfold Addr.add; split <;> simp_all
      refine ⟨β, off, rfl, ?_, fun i r hr => ?_⟩
      · simp only [World.cell?] at q3
        rcases Nat.lt_or_ge β w.heap.size with hb2 | hb2
        · exact hb2
        · rw [Array.getElem?_eq_none hb2] at q3; cases q3
      · obtain ⟨csi, p1, p2⟩ := hl2 i r hr
        subst p1
        obtain ⟨r0, r1, r2⟩ := cells3 p2
        rw [hadd] at r0 r1 r2
        rw [show (⟨β, off + i * 3, none⟩ : Addr).add 1 = ⟨β, off + i * 3 + 1, none⟩ by unfold Addr.add; simp] at r1
        rw [show (⟨β, off + i * 3, none⟩ : Addr).add 2 = ⟨β, off + i * 3 + 2, none⟩ by unfold Addr.add; simp] at r2
        refine ⟨r.cs, rfl, rfl, fun q u hq => ?_⟩
        match q, hq with
        | 0, hq => cases hq; exact r0
        | 1, hq => cases hq; exact r1
        | 2, hq => cases hq; exact r2
section
variable {H : Type} {enc : TypeId × Value → H} {W : World} {base b0 : Nat} {spare : Nat → Bool} {held : Bool} {r : Reach} {v : Value} {d : DataW H} {p : List MemPlace}
theorem wf64 {n : Int} (h : (Lit.int .i64 n).wf = true) : In64 n := by
  have := bounds_i64 h
  unfold In64
  omega
theorem open_runsA (hv : Value.okWide Try.prog W r b0 50 v) (h : DataW.Trod enc Try.prog W base spare held 50 v d p) : ∃ rs : List Run, SlR W v rs ∧ capOK v := by
  obtain ⟨m, hm⟩ := h
  obtain ⟨a, l, c, rfl⟩ := Go.WideShapes.okWide_slice Try.underlying50 hv
  exact open_runs hm
theorem open_int (hv : Value.okWide Try.prog W r b0 3 v) (h : DataW.Trod enc Try.prog W base spare held 3 v d p) : ∃ n : Int, v = .int .i64 n ∧ In64 n := by
  obtain ⟨m, hm⟩ := h
  obtain ⟨v', rfl⟩ : ∃ n, v = .int .i64 n := Go.WideShapes.okWide_int Try.underlying3 hv
  obtain ⟨n, e, _, wf⟩ := DataW.trod_int Try.underlying3 hm
  simp [Value.cells] at e
  subst e
  exact ⟨_, rfl, wf64 wf⟩
end
end Go.J

namespace Go.J
set_option linter.unusedSimpArgs false
set_option linter.unusedVariables false
open Go.RowKit Go.Proofs Go.ChangeShapes
set_option maxRecDepth 8000
/-! ## arguments: seas, patches, picks -/
structure Picks where
  px : Int
  py : Int
  cx : Int
  cy : Int
  wx : Int
  wy : Int
  down : Int
  cross : Int
  way : Int
  ux : Bool
  uy : Bool
def Picks.cs (x : Picks) : List Value := [.int .u16 x.px, .int .u16 x.py, .int .u16 x.cx, .int .u16 x.cy, .int .u16 x.wx, .int .u16 x.wy, .int .u16 x.down, .int .u16 x.cross, .int .u16 x.way, .bool x.ux, .bool x.uy]
def Picks.ev (x : Picks) : Value := .agg ⟨x.cs⟩
def u16 (n : Int) : Prop := 0 ≤ n ∧ n ≤ 65535
def Picks.ok (x : Picks) : Prop := (u16 x.px ∧ u16 x.py) ∧ (u16 x.cx ∧ u16 x.cy) ∧ (u16 x.wx ∧ u16 x.wy) ∧ u16 x.down ∧ u16 x.cross ∧ u16 x.way

theorem mapM_get {α β : Type} {f : α → Option β} : ∀ {l : List α} {r : List β}, l.mapM f = some r → r.length = l.length ∧ ∀ (i : Nat) a u, l[i]? = some a → r[i]? = some u → f a = some u := by
  intro l
  induction l with
  | nil => intro r h; simp only [List.mapM_nil] at h; cases h; exact ⟨rfl, fun i a u h => by simp at h⟩
  | cons x l ih =>
    intro r h
    simp only [List.mapM_cons] at h
    cases hx : f x with
    | none => rw [hx] at h; cases h
    | some y =>
      cases hl : l.mapM f with
      | none => rw [hx, hl] at h; cases h
      | some s =>
        rw [hx, hl] at h
        have h' : some (y :: s) = some r := h
        cases h'
        obtain ⟨h1, h2⟩ := ih hl
        refine ⟨by simp [h1], fun i a u ha hu => ?_⟩
        cases i with
        | zero => simp at ha hu; subst ha hu; exact hx
        | succ i => exact h2 i a u (by simpa using ha) (by simpa using hu)
theorem cells_get {w : World} {base n : Nat} {A : Addr} {l : List Value} (h : w.cells? base A n = some l) : l.length = n ∧ ∀ i u, l[i]? = some u → w.cell? (A.add i) = some u := by
  unfold World.cells? at h
  split at h
  · obtain ⟨h1, h2⟩ := mapM_get h
    rw [List.length_range] at h1
    refine ⟨h1, fun i u hu => ?_⟩
    have hi : i < n := by have := (List.getElem?_eq_some_iff.1 hu).1; omega
    exact h2 i i u (List.getElem?_range hi) hu
  · cases h
section
variable {H : Type} {enc : TypeId × Value → H} {w : World} {base : Nat} {spare : Nat → Bool} {held : Bool}
theorem trod_field {t : TypeId} {fs : Array Field} {fuel : Nat} {cs : List Value} {x : DataW H × List MemPlace} (ht : Try.prog.underlying t = some (.struct fs)) (h : DataW.trod enc Try.prog w base spare held fuel t cs = some x) (i : Nat) {f : Field} (hi' : fs.toList[i]? = some f) :
    ∃ y n, DataW.trod enc Try.prog w base spare held n f.type ((cs.drop f.offset).take (Try.prog.cellsOf f.type)) = some y := by
  have hi : fs[i]? = some f := by simpa using hi'
  obtain ⟨xs, n, _, _, _, hlen, hf⟩ := DataW.trod_struct ht h
  have h1 := hf i f hi
  have hlt : i < xs.length := by rw [hlen]; exact (Array.getElem?_eq_some_iff.1 hi).1
  rw [List.getElem?_eq_getElem hlt] at h1
  exact ⟨_, _, h1⟩
theorem trod_len {t : TypeId} {fs : Array Field} {fuel : Nat} {cs : List Value} {x : DataW H × List MemPlace} (ht : Try.prog.underlying t = some (.struct fs)) (h : DataW.trod enc Try.prog w base spare held fuel t cs = some x) : cs.length = Try.prog.cellsOf t := by
  obtain ⟨xs, n, _, _, hl, _, _⟩ := DataW.trod_struct ht h
  exact hl
theorem trod_elem {t e : TypeId} {n fuel : Nat} {cs : List Value} {x : DataW H × List MemPlace} (ht : Try.prog.underlying t = some (.array n e)) (h : DataW.trod enc Try.prog w base spare held fuel t cs = some x) (i : Nat) (hi : i < n) :
    ∃ y m, DataW.trod enc Try.prog w base spare held m e ((cs.drop (i * Try.prog.cellsOf e)).take (Try.prog.cellsOf e)) = some y := by
  obtain ⟨xs, m, _, _, _, hlen, hf⟩ := DataW.trod_array ht h
  have h1 := hf i hi
  have hlt : i < xs.length := by omega
  rw [List.getElem?_eq_getElem hlt] at h1
  exact ⟨_, _, h1⟩
theorem trod_i64 {fuel : Nat} {v : Value} {x : DataW H × List MemPlace} (h : DataW.trod enc Try.prog w base spare held fuel 3 [v] = some x) : ∃ n, v = .int .i64 n ∧ In64 n := by
  obtain ⟨n, e, _, wf⟩ := DataW.trod_int Try.underlying3 h
  simp at e
  exact ⟨n, e, wf64 wf⟩
theorem u16_bd {n : Int} (h : (Lit.int .u16 n).wf = true) : u16 n := by
  simp [Lit.wf, IntKind.min, IntKind.max, IntKind.signed, IntKind.bits] at h
  unfold u16
  omega
theorem trod_u16 {fuel : Nat} {v : Value} {x : DataW H × List MemPlace} (h : DataW.trod enc Try.prog w base spare held fuel 153 [v] = some x) : ∃ n, v = .int .u16 n ∧ u16 n := by
  obtain ⟨n, e, _, wf⟩ := DataW.trod_int Try.underlying153 h
  simp at e
  exact ⟨n, e, u16_bd wf⟩
theorem trod_b {fuel : Nat} {v : Value} {x : DataW H × List MemPlace} (h : DataW.trod enc Try.prog w base spare held fuel 4 [v] = some x) : ∃ b, v = .bool b := by
  obtain ⟨b, e, _⟩ := DataW.trod_bool Try.underlying4 h
  simp at e
  exact ⟨b, e⟩
theorem co3 : Try.prog.cellsOf 3 = 1 := by kernel_rfl
theorem co4 : Try.prog.cellsOf 4 = 1 := by kernel_rfl
theorem co23 : Try.prog.cellsOf 23 = 2 := by kernel_rfl
theorem co50 : Try.prog.cellsOf 50 = 1 := by kernel_rfl
theorem co52 : Try.prog.cellsOf 52 = 4 := by kernel_rfl
theorem co82 : Try.prog.cellsOf 82 = 1 := by kernel_rfl
theorem co84 : Try.prog.cellsOf 84 = 2 := by kernel_rfl
theorem co86 : Try.prog.cellsOf 86 = 5 := by kernel_rfl
theorem co88 : Try.prog.cellsOf 88 = 11 := by kernel_rfl
theorem co90 : Try.prog.cellsOf 90 = 5 := by kernel_rfl
theorem co153 : Try.prog.cellsOf 153 = 1 := by kernel_rfl
theorem co218 : Try.prog.cellsOf 218 = 7 := by kernel_rfl
/-- two ints -/
theorem trod_spot {fuel : Nat} {u v : Value} {x : DataW H × List MemPlace} (h : DataW.trod enc Try.prog w base spare held fuel 23 [u, v] = some x) : ∃ s : Spot, u = .int .i64 s.X ∧ v = .int .i64 s.Y := by
  obtain ⟨_, _, g0⟩ := trod_field Try.underlying23 h 0 rfl
  obtain ⟨_, _, g1⟩ := trod_field Try.underlying23 h 1 rfl
  simp only [co3] at g0 g1
  obtain ⟨a, e0, _⟩ := trod_i64 (v := u) g0
  obtain ⟨b, e1, _⟩ := trod_i64 (v := v) g1
  exact ⟨⟨a, b⟩, e0, e1⟩
theorem open_flow {fuel : Nat} {cs : List Value} {x : DataW H × List MemPlace} (h : DataW.trod enc Try.prog w base spare held fuel 218 cs = some x) : ∃ f : Flow, cs = f.cs ∧ SlR w f.wv f.wh := by
  have hl := trod_len Try.underlying218 h
  rw [co218] at hl
  match cs, hl with
  | [c0, c1, c2, c3, c4, c5, c6], _ =>
    obtain ⟨_, _, g0⟩ := trod_field Try.underlying218 h 0 rfl
    obtain ⟨_, _, g1⟩ := trod_field Try.underlying218 h 1 rfl
    obtain ⟨_, _, g2⟩ := trod_field Try.underlying218 h 2 rfl
    obtain ⟨_, _, g3⟩ := trod_field Try.underlying218 h 3 rfl
    obtain ⟨_, _, g4⟩ := trod_field Try.underlying218 h 4 rfl
    simp only [co3, co50, co23] at g0 g1 g2 g3 g4
    obtain ⟨n0, rfl, _⟩ := trod_i64 (v := c0) g0
    obtain ⟨n1, rfl, _⟩ := trod_i64 (v := c1) g1
    obtain ⟨rs, hs, _⟩ := open_runs (v := c2) g2
    obtain ⟨s0, rfl, rfl⟩ := trod_spot (u := c3) (v := c4) g3
    obtain ⟨s1, rfl, rfl⟩ := trod_spot (u := c5) (v := c6) g4
    exact ⟨⟨n0, n1, c2, rs, s0, s1⟩, rfl, hs⟩
theorem add_none {β off k : Nat} : (⟨β, off, none⟩ : Addr).add k = ⟨β, off + k, none⟩ := by unfold Addr.add; split <;> simp_all
theorem open_flows {fuel : Nat} {v : Value} {x : DataW H × List MemPlace} (h : DataW.trod enc Try.prog w base spare held fuel 82 [v] = some x) : ∃ fl : List Flow, FlowsIs w v fl := by
  rcases Go.Deep.open_slice Try.underlying82 h with ⟨h1, _⟩ | ⟨a, len, cap, m, n, D, Pl, h1, hb, hl, hm, hmm, _, hx⟩
  · cases h1
    exact ⟨[], ⟨by simp, none, 0, rfl, .inl rfl⟩, by simp⟩
  · cases h1
    rw [co218] at hx
    have hlm : len ≤ m := by rw [hmm]; split <;> omega
    have hget : ∀ i, i < len → ∃ f : Flow, (∃ cs', cs' = Flow.cs f ∧ w.cells? base (a.add (i * 7)) 7 = some cs') ∧ SlR w f.wv f.wh := by
      intro i hi
      obtain ⟨cs', h2, h3⟩ := hx i (by omega)
      obtain ⟨f, rfl, hf⟩ := open_flow h3
      exact ⟨f, ⟨_, rfl, h2⟩, hf⟩
    obtain ⟨fl, hl1, hl2⟩ := list_of len hget
    refine ⟨fl, ⟨by rw [hl1]; simp only [maxLen] at hm; omega, some a, cap, by rw [hl1], ?_⟩, fun f hf => ?_⟩
    · by_cases h0 : fl = []
      · exact .inl h0
      · right
        have hpos : 0 < fl.length := List.length_pos_iff.2 h0
        obtain ⟨⟨cs0, q1, q2⟩, _⟩ := hl2 0 fl[0] (by simp [hpos])
        subst q1
        have q3 := (cells_get q2).2 0 _ rfl
        have ha : (a.add (0 * 7)).add 0 = a := rfl
        rw [ha] at q3
        obtain ⟨β, off, spot⟩ := a
        have hsp : spot = none := by
          cases spot with
          | none => rfl
          | some z => simp only [World.cell?] at q3; split at q3 <;> simp at q3
        subst hsp
        refine ⟨β, off, rfl, ?_, fun i f hr => ?_⟩
        · simp only [World.cell?] at q3
          rcases Nat.lt_or_ge β w.heap.size with hb2 | hb2
          · exact hb2
          · rw [Array.getElem?_eq_none hb2] at q3; cases q3
        · obtain ⟨⟨csi, p1, p2⟩, _⟩ := hl2 i f hr
          subst p1
          refine ⟨f.cs, rfl, rfl, fun q u hq => ?_⟩
          have := (cells_get p2).2 q u hq
          rw [add_none, add_none] at this
          exact this
    · obtain ⟨i, hi⟩ := List.mem_iff_getElem?.1 hf
      exact (hl2 i f hi).2
theorem open_gridT {fuel : Nat} {c0 c1 c2 c3 : Value} {x : DataW H × List MemPlace} (h : DataW.trod enc Try.prog w base spare held fuel 52 [c0, c1, c2, c3] = some x) : ∃ g : Grid, c0 = .int .i64 g.W ∧ c1 = .int .i64 g.H ∧ c2 = .int .i64 g.S ∧ SlR w c3 g.land ∧ capOK c3 ∧ In64 g.W ∧ In64 g.H ∧ In64 g.S := by
  obtain ⟨_, _, g0⟩ := trod_field Try.underlying52 h 0 rfl
  obtain ⟨_, _, g1⟩ := trod_field Try.underlying52 h 1 rfl
  obtain ⟨_, _, g2⟩ := trod_field Try.underlying52 h 2 rfl
  obtain ⟨_, _, g3⟩ := trod_field Try.underlying52 h 3 rfl
  simp only [co3, co50] at g0 g1 g2 g3
  obtain ⟨n0, e0, i0⟩ := trod_i64 (v := c0) g0
  obtain ⟨n1, e1, i1⟩ := trod_i64 (v := c1) g1
  obtain ⟨n2, e2, i2⟩ := trod_i64 (v := c2) g2
  obtain ⟨rs, hs, hc⟩ := open_runs (v := c3) g3
  exact ⟨⟨n0, n1, n2, rs⟩, e0, e1, e2, hs, hc, i0, i1, i2⟩
end
section
variable {H : Type} {enc : TypeId × Value → H} {W : World} {base b0 : Nat} {spare : Nat → Bool} {held : Bool} {r : Reach} {v : Value} {d : DataW H} {p : List MemPlace}
theorem open_sea (hv : Value.okWide Try.prog W r b0 88 v) (h : DataW.Trod enc Try.prog W base spare held 88 v d p) :
    ∃ (g : Grid) (lv cv wv : Value) (cu wi : List Flow) (dr : Drifter), v = seaEv g lv cv wv dr ∧ SlR W lv g.land ∧ capOK lv ∧ FlowsIs W cv cu ∧ FlowsIs W wv wi ∧ (In64 g.W ∧ In64 g.H ∧ In64 g.S) ∧ In64 dr.dl ∧ In64 dr.dh ∧ In64 dr.cl ∧ In64 dr.ch := by
  obtain ⟨⟨l⟩, rfl, hsz⟩ := Go.WideShapes.okWide_struct Try.underlying88 hv
  rw [co88] at hsz
  obtain ⟨fuel, hf⟩ := h
  match l, hsz with
  | [c0, c1, c2, c3, c4, c5, c6, c7, c8, c9, c10], _ =>
    simp only [Value.cells] at hf
    obtain ⟨_, _, g0⟩ := trod_field Try.underlying88 hf 0 rfl
    obtain ⟨_, _, g1⟩ := trod_field Try.underlying88 hf 1 rfl
    obtain ⟨_, _, g2⟩ := trod_field Try.underlying88 hf 2 rfl
    simp only [co52, co84, co86] at g0 g1 g2
    obtain ⟨g, rfl, rfl, rfl, hs, hc, hi⟩ := open_gridT (c0 := c0) (c1 := c1) (c2 := c2) (c3 := c3) g0
    obtain ⟨_, _, k0⟩ := trod_field Try.underlying84 g1 0 rfl
    obtain ⟨_, _, k1⟩ := trod_field Try.underlying84 g1 1 rfl
    obtain ⟨_, _, q0⟩ := trod_field Try.underlying86 g2 0 rfl
    obtain ⟨_, _, q1⟩ := trod_field Try.underlying86 g2 1 rfl
    obtain ⟨_, _, q2⟩ := trod_field Try.underlying86 g2 2 rfl
    obtain ⟨_, _, q3⟩ := trod_field Try.underlying86 g2 3 rfl
    obtain ⟨_, _, q4⟩ := trod_field Try.underlying86 g2 4 rfl
    simp only [co82, co3, co4] at k0 k1 q0 q1 q2 q3 q4
    obtain ⟨cu, hcu⟩ := open_flows (v := c4) k0
    obtain ⟨wi, hwi⟩ := open_flows (v := c5) k1
    obtain ⟨n0, rfl, i0⟩ := trod_i64 (v := c6) q0
    obtain ⟨n1, rfl, i1⟩ := trod_i64 (v := c7) q1
    obtain ⟨n2, rfl, i2⟩ := trod_i64 (v := c8) q2
    obtain ⟨n3, rfl, i3⟩ := trod_i64 (v := c9) q3
    obtain ⟨b, rfl⟩ := trod_b (v := c10) q4
    exact ⟨g, c3, c4, c5, cu, wi, ⟨n0, n1, n2, n3, b⟩, rfl, hs, hc, hcu, hwi, hi, i0, i1, i2, i3⟩
theorem open_patch (hv : Value.okWide Try.prog W r b0 90 v) (h : DataW.Trod enc Try.prog W base spare held 90 v d p) :
    ∃ q : Patch, v = q.ev ∧ q.is W ∧ (capOK q.lv ∧ capOK q.rv ∧ capOK q.bv) ∧ In64 q.time := by
  obtain ⟨⟨l⟩, rfl, hsz⟩ := Go.WideShapes.okWide_struct Try.underlying90 hv
  rw [co90] at hsz
  obtain ⟨fuel, hf⟩ := h
  match l, hsz with
  | [c0, c1, c2, c3, c4], _ =>
    simp only [Value.cells] at hf
    obtain ⟨_, _, g0⟩ := trod_field Try.underlying90 hf 0 rfl
    obtain ⟨_, _, g1⟩ := trod_field Try.underlying90 hf 1 rfl
    obtain ⟨_, _, g2⟩ := trod_field Try.underlying90 hf 2 rfl
    obtain ⟨_, _, g3⟩ := trod_field Try.underlying90 hf 3 rfl
    obtain ⟨_, _, g4⟩ := trod_field Try.underlying90 hf 4 rfl
    simp only [co3, co50, co4] at g0 g1 g2 g3 g4
    obtain ⟨n0, rfl, i0⟩ := trod_i64 (v := c0) g0
    obtain ⟨r1, s1, k1⟩ := open_runs (v := c1) g1
    obtain ⟨r2, s2, k2⟩ := open_runs (v := c2) g2
    obtain ⟨r3, s3, k3⟩ := open_runs (v := c3) g3
    obtain ⟨b, rfl⟩ := trod_b (v := c4) g4
    exact ⟨⟨n0, c1, r1, c2, r2, c3, r3, b⟩, rfl, ⟨s1, s2, s3⟩, ⟨k1, k2, k3⟩, i0⟩
end
end Go.J

namespace Go.J
open Go.RowKit Go.Proofs
set_option maxRecDepth 8000
set_option linter.unusedSimpArgs false
set_option linter.unusedVariables false
/-! four small numbers -/
section
variable {H : Type} {enc : TypeId × Value → H} {W : World} {base b0 : Nat} {spare : Nat → Bool} {held : Bool} {r : Reach} {v : Value} {d : DataW H} {p : List MemPlace}
theorem co163 : Try.prog.cellsOf 163 = 4 := by kernel_rfl
theorem open_a4u16 (hv : Value.okWide Try.prog W r b0 163 v) (h : DataW.Trod enc Try.prog W base spare held 163 v d p) : ∃ a b c e : Int, v = .agg ⟨[.int .u16 a, .int .u16 b, .int .u16 c, .int .u16 e]⟩ ∧ u16 a ∧ u16 b ∧ u16 c ∧ u16 e := by
  simp only [Value.okWide, Try.underlying163] at hv
  obtain ⟨⟨l⟩, rfl, hsz, _⟩ := hv
  rw [co163] at hsz
  obtain ⟨fuel, hf⟩ := h
  match l, hsz with
  | [c0, c1, c2, c3], _ =>
    simp only [Value.cells] at hf
    obtain ⟨_, _, a0⟩ := trod_elem Try.underlying163 hf 0 (by omega)
    obtain ⟨_, _, a1⟩ := trod_elem Try.underlying163 hf 1 (by omega)
    obtain ⟨_, _, a2⟩ := trod_elem Try.underlying163 hf 2 (by omega)
    obtain ⟨_, _, a3⟩ := trod_elem Try.underlying163 hf 3 (by omega)
    simp only [co153] at a0 a1 a2 a3
    obtain ⟨n0, rfl, i0⟩ := trod_u16 (v := c0) a0
    obtain ⟨n1, rfl, i1⟩ := trod_u16 (v := c1) a1
    obtain ⟨n2, rfl, i2⟩ := trod_u16 (v := c2) a2
    obtain ⟨n3, rfl, i3⟩ := trod_u16 (v := c3) a3
    exact ⟨n0, n1, n2, n3, rfl, i0, i1, i2, i3⟩
end
end Go.J
