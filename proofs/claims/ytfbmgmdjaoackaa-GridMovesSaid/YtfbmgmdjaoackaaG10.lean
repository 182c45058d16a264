/-
  Lemmas for the statements of this seat; no statement is proved here. No condition.
-/
import Derived.Test.YtfbmgmdjaoackaaG9
namespace Go.J
open Go.RowKit Go.Proofs
set_option maxRecDepth 8000
set_option linter.unusedSimpArgs false
set_option linter.unusedVariables false
/-- runs and an error, handed back; the runs lie in memory of ours -/
def ResR (w0 w : World) (L : List HP) (p : List Run × Int) (e : Ending) : Prop := ∃ rv, e = .returned (.tuple #[rv, .int .i64 p.2]) ∧ Own w0 w (runRow rv p.1 :: L)
def regRes (T : Tab) : List Run × Int := if (regR T).length ≤ 8192 then (regR T, 0) else ([], 3)
/-- spans as they come by add -/
structure Tab.good (W : Int) (k : Nat) (T : Tab) : Prop where
  len : T.length = 256
  le : ∀ l ∈ T, l.length ≤ k
  ne : ∀ l ∈ T, ∀ s ∈ l, s.a < s.b ∧ 0 ≤ s.a ∧ s.b ≤ W
theorem tab0_good (W : Int) : Tab.good W 0 tab0 := ⟨by simp [tab0], by intro l hl; simp [tab0] at hl; simp [hl], by intro l hl s hs; simp [tab0] at hl; subst hl; cases hs⟩
theorem Tab.good.add {W : Int} {k : Nat} {T : Tab} (h : Tab.good W k T) (H y a b : Int) : Tab.good W (k + 1) (T.add W H y a b) := by
  unfold Tab.add
  split
  · rename_i hc
    refine ⟨by simp [h.len], fun l hl => ?_, fun l hl s hs => ?_⟩
    · rcases List.mem_or_eq_of_mem_set hl with hl | rfl
      · have := h.le l hl; omega
      · simp only [List.length_append, List.length_singleton, List.getD]
        cases hx : T[y.toNat]? with
        | none => simp
        | some x => have := h.le x (List.mem_of_getElem? hx); simp; omega
    · rcases List.mem_or_eq_of_mem_set hl with hl | rfl
      · exact h.ne l hl s hs
      · rcases List.mem_append.1 hs with hs | hs
        · simp only [List.getD] at hs
          cases hx : T[y.toNat]? with
          | none => rw [hx] at hs; cases hs
          | some x => rw [hx] at hs; exact h.ne x (List.mem_of_getElem? hx) s hs
        · simp at hs
          subst hs
          simp only
          omega
  · exact ⟨h.len, fun l hl => Nat.le_succ_of_le (h.le l hl), h.ne⟩
theorem Tab.good.mono {W : Int} {k k' : Nat} {T : Tab} (h : Tab.good W k T) (hk : k ≤ k') : Tab.good W k' T := ⟨h.len, fun l hl => Nat.le_trans (h.le l hl) hk, h.ne⟩
theorem region_c2 {w0 w : World} {L : List HP} {β : Nat} {T : Tab} {W : Int} {k : Nat} (H : Own w0 w (tbl β T :: L)) (hg : Tab.good W k T) (hk : k ≤ 1000000000) (hW : W ≤ 256) :
    Calls Try.prog 131 #[.pointer (some ⟨β, 0, none⟩)] w (fun e w' => ResR w0 w' L (regRes T) e) := by
  refine (region_c H (fun l hl => Nat.le_trans (hg.le l hl) hk) (fun l hl s hs => by have := hg.ne l hl s hs; omega)).mono ?_
  rintro e w' (⟨h1, rfl, H'⟩ | ⟨h1, rv, rfl, H'⟩)
  · unfold ResR regRes
    rw [if_neg (by omega)]
    exact ⟨_, rfl, H'.nilRow 140 3⟩
  · unfold ResR regRes
    rw [if_pos h1]
    exact ⟨_, rfl, H'⟩
def fillT (W H : Int) (F : Int → Int × Int) (n : Nat) : Tab := (List.range n).foldl (fun T (y : Nat) => T.add W H y (F y).1 ((F y).2 + 1)) tab0
theorem fillT_succ (W H : Int) (F : Int → Int × Int) (n : Nat) : fillT W H F (n + 1) = (fillT W H F n).add W H n (F n).1 ((F n).2 + 1) := by
  unfold fillT; rw [List.range_succ, List.foldl_append]; rfl
theorem fillT_good (W H : Int) (F : Int → Int × Int) : ∀ n, Tab.good W n (fillT W H F n) := by
  intro n
  induction n with
  | zero => exact tab0_good W
  | succ n ih => rw [fillT_succ]; exact ih.add _ _ _ _
theorem filled_c (g : Grid) (lv : Value) (f : FuncId) (capt : List Value) (F : Int → Int × Int) (w : World) (hgW : 1 ≤ g.W ∧ g.W ≤ 256) (hgH : 1 ≤ g.H ∧ g.H ≤ 256) (hb : hasBody Try.prog f = true)
    (hf : ∀ w', Below w.heap.size w w' → ∀ y : Int, 0 ≤ y → y < g.H → Pur Try.prog f (.int .i64 y :: capt).toArray w' (.tuple #[.int .i64 (F y).1, .int .i64 (F y).2]) ∧ -1000000000000 ≤ (F y).2 ∧ (F y).2 ≤ 1000000000000) :
    Calls Try.prog 163 #[g.ev lv, .func (.func f) #[] ⟨capt⟩] w (fun e w' => ResR w w' [] (regRes (fillT g.W g.H F g.H.toNat)) e) := by
  refine calls_J (args := [g.ev lv, .func (.func f) #[] ⟨capt⟩]) Try.func163 rfl Try.ntmps163 rfl ?_
  have H := Own.start w
  ((repeat refine JC.seq ?_); refine JC.region ?_)
  refine JL.box H rfl rfl rfl ?_
  intro b2 w1 H
  refine JL.pure rfl rfl ?_
  refine JL.pure rfl rfl ?_
  refine JL.nil ?_
  ((repeat refine Ex.normal_block ?_); refine Ex.next ?_)
  ((repeat refine JC.seq ?_); refine JC.region ?_)
  refine JL.buildA Try.underlying195 sh193 za195 rfl rfl ?_
  refine JL.box H rfl rfl rfl ?_
  intro b11 w2 H
  refine JL.pure rfl rfl ?_
  refine JL.nil ?_
  ((repeat refine Ex.normal_block ?_); refine Ex.next ?_)
  ((repeat refine JC.seq ?_); refine JC.region ?_)
  have H := H.newT
  refine JL.fieldAddr rfl Try.underlying52 rfl sh3 rfl ?_
  refine JL.loadB 1 H rfl sh3 rfl rfl rfl ?_
  refine JL.pure rfl rfl ?_
  refine JL.nil ?_
  ((repeat refine Ex.normal_block ?_); refine Ex.next ?_)
  ((repeat refine JC.seq ?_); refine JC.block ?_)
  ((repeat refine JC.seq ?_); refine JC.loop (ι := Nat) (fun y => [(1, .func (.func f) #[] ⟨capt⟩), (2, .pointer (some ⟨b2, 0, none⟩)), (6, .pointer (some ⟨b11, 0, none⟩)), (13, .int .i64 g.H), (14, .int .i64 y)])
    (fun y wr => y ≤ g.H.toNat ∧ Own w wr [tbl b11 (fillT g.W g.H F y), blk b2 (.cells ⟨[.int .i64 g.W, .int .i64 g.H, .int .i64 g.S, lv]⟩ 52 (0, 0))])
    (fun y => g.H.toNat - y) 0 ?_ ?_ ?_)
  · exact ⟨rfl, rfl, rfl, rfl, rfl, trivial⟩
  · exact ⟨Nat.zero_le _, H⟩
  · rintro y wr ⟨hy, H⟩
    have hgd := fillT_good g.W g.H F y
    ((repeat refine JC.seq ?_); refine JC.region ?_)
    refine JL.pure rfl rfl ?_
    refine JL.nil ?_
    ((repeat refine Ex.normal_block ?_); refine Ex.next ?_)
    ((repeat refine JC.seq ?_); refine JC.cond rfl ?_ ?_)
    · intro h15
      (try simp only [Bool.not_eq_true', Bool.not_eq_false', decide_eq_true_eq, decide_eq_false_iff_not] at h15)
      obtain ⟨hp, hp1, hp2⟩ := hf wr H.below y (by omega) h15
      ((repeat refine JC.seq ?_); refine JC.skip ?_)
      ((repeat refine Ex.normal_block ?_); refine Ex.next ?_)
      ((repeat refine JC.seq ?_); refine JC.block ?_)
      ((repeat refine JC.seq ?_); refine JC.region ?_)
      refine JL.pure rfl rfl ?_
      refine JL.pure rfl rfl ?_
      refine JL.nil ?_
      ((repeat refine Ex.normal_block ?_); refine Ex.next ?_)
      ((repeat refine JC.seq ?_); refine JC.region ?_)
      refine JL.pure rfl rfl ?_
      refine JL.pure rfl rfl ?_
      refine JL.callvP H rfl hb rfl rfl (hf _ H.below y (by omega) h15).1 ?_
      intro w3 H _
      refine JL.pure rfl rfl ?_
      refine JL.pure rfl rfl ?_
      refine JL.pure rfl rfl ?_
      refine JL.pure rfl rfl ?_
      refine JL.pure rfl rfl ?_
      refine JL.nil ?_
      ((repeat refine Ex.normal_block ?_); refine Ex.next ?_)
      ((repeat refine JC.seq ?_); refine JC.region ?_)
      refine JL.pure rfl rfl ?_
      refine JL.loadB 1 H rfl sh52 rfl rfl rfl ?_
      refine JL.pure rfl rfl ?_
      refine JL.pure rfl rfl ?_
      refine JL.pure rfl rfl ?_
      refine JL.arith rfl (by unfold In64; omega) rfl ?_
      refine JL.call fb134 rfl rfl (add_c H _ _ _ _ _ _ _ hgH hgW.2 (fun l hl => by have := hgd.le l hl; omega)) ?_
      rintro _ w4 ⟨rfl, H⟩
      refine ⟨_, rfl, ?_⟩
      refine JL.nil ?_
      ((repeat refine Ex.normal_block ?_); refine Ex.next ?_)
      ((repeat refine JC.seq ?_); refine JC.region ?_)
      refine JL.arith rfl (by unfold In64; omega) rfl ?_
      refine JL.pure rfl rfl ?_
      refine JL.nil ?_
      (repeat refine Ex.normal_block ?_)
      rw [← fillT_succ] at H
      refine Ex.again (y + 1) ⟨rfl, rfl, rfl, rfl, rfl, trivial⟩ ⟨by omega, H⟩ (by omega)
    · intro h15
      (try simp only [Bool.not_eq_true', Bool.not_eq_false', decide_eq_true_eq, decide_eq_false_iff_not] at h15)
      
      ((repeat refine JC.seq ?_); refine JC.exit ?_)
      (repeat (first | refine Ex.exit_then ?_ | refine Ex.exit_miss (by decide) ?_))
      refine Ex.exit_hit ?_
      ((repeat refine Ex.normal_block ?_); refine Ex.next ?_)
      ((repeat refine JC.seq ?_); refine JC.region ?_)
      refine JL.pure rfl rfl ?_
      have hyH : y = g.H.toNat := by omega
      subst hyH
      refine JL.call fb131 rfl rfl (region_c2 H hgd (by omega) hgW.2) ?_
      rintro _ w5 ⟨rv, rfl, H⟩
      refine ⟨_, rfl, ?_⟩
      refine JL.pure rfl rfl ?_
      refine JL.pure rfl rfl ?_
      refine JL.pure rfl rfl ?_
      refine JL.pure rfl rfl ?_
      refine JL.nil ?_
      ((repeat refine Ex.normal_block ?_); refine Ex.next ?_)
      ((repeat refine JC.seq ?_); refine JC.ret ?_)
      (repeat (first | refine Ex.ret_then ?_ | refine Ex.ret_block ?_))
      refine Ex.ret2 rfl (.tmp rfl) (.tmp rfl) ⟨_, rfl, H.drop 1⟩
theorem all1_c (g : Grid) (lv : Value) (y : Int) (β : Nat) (w : World) (hβ : β < w.heap.size) (hc : LdAt w β 0 (true, 4) (g.ev lv)) (hW : 1 ≤ g.W ∧ g.W ≤ 256) :
    Pur Try.prog 196 #[.int .i64 y, .pointer (some ⟨β, 0, none⟩)] w (.tuple #[.int .i64 0, .int .i64 (g.W - 1)]) := by
  refine pur_J (args := [.int .i64 y, .pointer (some ⟨β, 0, none⟩)]) Try.func196 rfl Try.ntmps196 rfl ?_
  have H := Own.start w
  ((repeat refine JC.seq ?_); refine JC.region ?_)
  refine JL.pure rfl rfl ?_
  refine JL.pure rfl rfl ?_
  refine JL.nil ?_
  ((repeat refine Ex.normal_block ?_); refine Ex.next ?_)
  ((repeat refine JC.seq ?_); refine JC.draw 5 H mixed (by kernel_rfl) rfl ?_)
  refine JD.fieldAddr rfl Try.underlying52 rfl sh3 rfl ?_
  refine JD.load rfl sh3 (fun w hw => (hc.part 0 rfl 1).grow hβ hw.below) rfl ?_
  refine JD.arith rfl (by unfold In64; omega) rfl ?_
  refine JD.pure rfl rfl ?_
  refine JD.pure rfl rfl ?_
  refine JD.nil ?_
  intro w1 H
  show JL _ _ _ _ _ _ _
  refine JL.nil ?_
  ((repeat refine Ex.normal_block ?_); refine Ex.next ?_)
  ((repeat refine JC.seq ?_); refine JC.ret ?_)
  (repeat (first | refine Ex.ret_then ?_ | refine Ex.ret_block ?_))
  refine Ex.ret2 rfl (.tmp rfl) (.tmp rfl) ⟨rfl, H.below⟩
def allR (g : Grid) : List Run × Int := if g.ok then regRes (fillT g.W g.H (fun _ => (0, g.W - 1)) g.H.toNat) else ([], 2)
theorem all_c (g : Grid) (lv : Value) (w : World) (hl : SlR w lv g.land) : Calls Try.prog 108 #[g.ev lv] w (fun e w' => ResR w w' [] (allR g) e) := by
  refine calls_J (args := [g.ev lv]) Try.func108 rfl Try.ntmps108 rfl ?_
  have H := Own.start w
  ((repeat refine JC.seq ?_); refine JC.region ?_)
  refine JL.box H rfl rfl rfl ?_
  intro b1 w1 H
  refine JL.pure rfl rfl ?_
  refine JL.pure rfl rfl ?_
  refine JL.nil ?_
  ((repeat refine Ex.normal_block ?_); refine Ex.next ?_)
  ((repeat refine JC.seq ?_); refine JC.region ?_)
  refine JL.loadB 0 H rfl sh52 rfl rfl rfl ?_
  refine JL.callP H fb141 rfl rfl (checkGrid_c g lv _ (hl.grow H.below)) ?_
  intro w2 H _
  refine JL.pure rfl rfl ?_
  refine JL.nil ?_
  ((repeat refine Ex.normal_block ?_); refine Ex.next ?_)
  ((repeat refine JC.seq ?_); refine JC.region ?_)
  refine JL.pure rfl rfl ?_
  refine JL.pure rfl rfl ?_
  refine JL.nil ?_
  ((repeat refine Ex.normal_block ?_); refine Ex.next ?_)
  ((repeat refine JC.seq ?_); refine JC.cond rfl ?_ ?_)
  · intro h8
    (try simp only [Bool.not_eq_true', Bool.not_eq_false', decide_eq_true_eq, decide_eq_false_iff_not] at h8)
    have hok : g.ok = false := by
      cases hc : g.ok with
      | false => rfl
      | true => exfalso; rw [hc] at h8; simp at h8
    ((repeat refine JC.seq ?_); refine JC.region ?_)
    refine JL.pure rfl rfl ?_
    refine JL.pure rfl rfl ?_
    refine JL.pure rfl rfl ?_
    refine JL.nil ?_
    ((repeat refine Ex.normal_block ?_); refine Ex.next ?_)
    ((repeat refine JC.seq ?_); refine JC.ret ?_)
    (repeat (first | refine Ex.ret_then ?_ | refine Ex.ret_block ?_))
    refine Ex.ret2 rfl (.tmp rfl) (.tmp rfl) ?_
    unfold allR ResR; rw [hok]
    exact ⟨_, rfl, (H.drop 0).nilRow 140 3⟩
  · intro h8
    (try simp only [Bool.not_eq_true', Bool.not_eq_false', decide_eq_true_eq, decide_eq_false_iff_not] at h8)
    have hok : g.ok = true := by
      cases hc : g.ok with
      | true => rfl
      | false => exfalso; rw [hc] at h8; simp at h8
    obtain ⟨hgW, hgH, hgS, hgl⟩ := Grid.ok_b hok
    ((repeat refine JC.seq ?_); refine JC.skip ?_)
    ((repeat refine Ex.normal_block ?_); refine Ex.next ?_)
    ((repeat refine JC.seq ?_); refine JC.region ?_)
    refine JL.loadB 0 H rfl sh52 rfl rfl rfl ?_
    refine JL.pure rfl rfl ?_
    have hgb := H.get (i := 0) rfl
    have hlt := lt_of_block hgb.2
    refine JL.call fb163 rfl rfl (filled_c g lv 196 [.pointer (some ⟨b1, 0, none⟩)] (fun _ => (0, g.W - 1)) _ hgW hgH fb196 (fun w' hb' y _ _ => ⟨all1_c g lv y b1 w' (Nat.lt_of_lt_of_le hlt hb'.size) ((LdAt.of_block hgb.2 rfl).grow hlt hb') hgW, by simp only; omega, by simp only; omega⟩)) ?_
    rintro _ w3 ⟨rv, rfl, K⟩
    have H := H.join K
    refine ⟨_, rfl, ?_⟩
    refine JL.pure rfl rfl ?_
    refine JL.pure rfl rfl ?_
    refine JL.pure rfl rfl ?_
    refine JL.pure rfl rfl ?_
    refine JL.nil ?_
    ((repeat refine Ex.normal_block ?_); refine Ex.next ?_)
    ((repeat refine JC.seq ?_); refine JC.ret ?_)
    (repeat (first | refine Ex.ret_then ?_ | refine Ex.ret_block ?_))
    refine Ex.ret2 rfl (.tmp rfl) (.tmp rfl) ?_
    unfold allR; rw [hok]
    exact ⟨_, rfl, H.drop 1⟩
end Go.J
