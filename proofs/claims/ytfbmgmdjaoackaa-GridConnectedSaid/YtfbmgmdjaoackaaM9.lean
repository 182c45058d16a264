/-
  Lemmas for the statements of this seat; no statement is proved here. No condition.
-/
import Derived.Test.YtfbmgmdjaoackaaM2
import Derived.Test.YtfbmgmdjaoackaaM3
import Derived.Deep.Slices
import Derived.Deep.Strs
import Derived.Lib.SmallJoins
import Derived.OpenShut
namespace Go.J
set_option linter.unusedSimpArgs false
set_option linter.unusedVariables false
open Go.RowKit Go.Proofs Go.ChangeShapes
set_option maxRecDepth 8000
theorem list_of {α : Type} {p : Nat → α → Prop} : ∀ n : Nat, (∀ i, i < n → ∃ x, p i x) → ∃ l : List α, l.length = n ∧ ∀ i x, l[i]? = some x → p i x := by
  intro n
  induction n with
  | zero => intro _; exact ⟨[], rfl, fun i x h => by simp at h⟩
  | succ n ih =>
    intro h
    obtain ⟨l, h1, h2⟩ := ih fun i hi => h i (by omega)
    obtain ⟨x, hx⟩ := h n (by omega)
    refine ⟨l ++ [x], by simp [h1], fun i y hy => ?_⟩
    rcases Nat.lt_or_ge i n with hi | hi
    · rw [List.getElem?_append_left (by omega)] at hy; exact h2 i y hy
    · rw [List.getElem?_append_right (by omega)] at hy
      have : i = n := by
        rcases Nat.eq_or_lt_of_le hi with h | h
        · exact h.symm
        · rw [List.getElem?_eq_none (by simp; omega)] at hy; cases hy
      subst this
      simp [h1] at hy
      subst hy
      exact hx
theorem cells3 {w : World} {base : Nat} {A : Addr} {u0 u1 u2 : Value} (h : w.cells? base A 3 = some [u0, u1, u2]) : w.cell? A = some u0 ∧ w.cell? (A.add 1) = some u1 ∧ w.cell? (A.add 2) = some u2 := by
  unfold World.cells? at h
  split at h
  · have e : List.range 3 = [0, 1, 2] := rfl
    rw [e] at h
    simp only [List.mapM_cons, List.mapM_nil] at h
    have e0 : A.add 0 = A := rfl
    rw [e0] at h
    cases h0 : w.cell? A with
    | none => rw [h0] at h; cases h
    | some x0 => cases h1 : w.cell? (A.add 1) with
      | none => rw [h0, h1] at h; cases h
      | some x1 => cases h2 : w.cell? (A.add 2) with
        | none => rw [h0, h1, h2] at h; cases h
        | some x2 =>
          rw [h0, h1, h2] at h
          have h' : some [x0, x1, x2] = some [u0, u1, u2] := h
          cases h'
          exact ⟨rfl, rfl, rfl⟩
  · cases h
theorem open_runs {H : Type} {enc : TypeId × Value → H} {w : World} {base : Nat} {spare : Nat → Bool} {held : Bool} {fuel : Nat} {v : Value} {x : DataW H × List MemPlace} (h : DataW.trod enc Try.prog w base spare held fuel 50 [v] = some x) :
    ∃ rs : List Run, SlR w v rs ∧ capOK v := by
  rcases Go.Deep.open_slice Try.underlying50 h with ⟨h1, _⟩ | ⟨a, len, cap, m, n, D, Pl, h1, hb, hl, hm, hmm, _, hx⟩
  · cases h1
    exact ⟨[], ⟨by simp, none, 0, rfl, .inl rfl⟩, Nat.le_refl _⟩
  · cases h1
    have hc : Try.prog.cellsOf 140 = 3 := by kernel_rfl
    rw [hc] at hx
    have hlm : len ≤ m := by rw [hmm]; split <;> omega
    have hget : ∀ i, i < len → ∃ r : Run, ∃ cs', cs' = Run.cs r ∧ w.cells? base (a.add (i * 3)) 3 = some cs' := by
      intro i hi
      obtain ⟨cs', h2, h3⟩ := hx i (by omega)
      obtain ⟨y0, y1, y2, k, _, hlen, g0, g1, g2⟩ := Go.Deep.trod_struct3 Try.underlying140 h3
      have hc3 : Try.prog.cellsOf 3 = 1 := by kernel_rfl
      rw [hc] at hlen
      match cs', hlen with
      | [c0, c1, c2], _ =>
        simp only [hc3] at g0 g1 g2
        obtain ⟨n0, e0, _, _⟩ := DataW.trod_int Try.underlying3 g0
        obtain ⟨n1, e1, _, _⟩ := DataW.trod_int Try.underlying3 g1
        obtain ⟨n2, e2, _, _⟩ := DataW.trod_int Try.underlying3 g2
        simp at e0 e1 e2
        subst e0 e1 e2
        exact ⟨⟨n0, n1, n2⟩, _, rfl, h2⟩
    obtain ⟨rs, hl1, hl2⟩ := list_of len hget
    refine ⟨rs, ?_, hl⟩
    refine ⟨by rw [hl1]; simp only [maxLen] at hm; omega, some a, cap, by rw [hl1], ?_⟩
    by_cases h0 : rs = []
    · exact .inl h0
    · right
      have hpos : 0 < rs.length := List.length_pos_iff.2 h0
      obtain ⟨cs0, q1, q2⟩ := hl2 0 rs[0] (by simp [hpos])
      subst q1
      have q3 := (cells3 q2).1
      have ha : a.add (0 * 3) = a := rfl
      rw [ha] at q3
      obtain ⟨β, off, spot⟩ := a
      have hsp : spot = none := by
        cases spot with
        | none => rfl
        | some z => simp only [World.cell?] at q3; split at q3 <;> simp at q3
      subst hsp
      have hadd : ∀ k, (⟨β, off, none⟩ : Addr).add k = ⟨β, off + k, none⟩ := by
        intro k; unfold Addr.add; split <;> simp_all
      refine ⟨β, off, rfl, ?_, fun i r hr => ?_⟩
      · simp only [World.cell?] at q3
        rcases Nat.lt_or_ge β w.heap.size with hb2 | hb2
        · exact hb2
        · rw [Array.getElem?_eq_none hb2] at q3; cases q3
      · obtain ⟨csi, p1, p2⟩ := hl2 i r hr
        subst p1
        obtain ⟨r0, r1, r2⟩ := cells3 p2
        rw [hadd] at r0 r1 r2
        rw [show (⟨β, off + i * 3, none⟩ : Addr).add 1 = ⟨β, off + i * 3 + 1, none⟩ by unfold Addr.add; simp] at r1
        rw [show (⟨β, off + i * 3, none⟩ : Addr).add 2 = ⟨β, off + i * 3 + 2, none⟩ by unfold Addr.add; simp] at r2
        refine ⟨r.cs, rfl, rfl, fun q u hq => ?_⟩
        match q, hq with
        | 0, hq => cases hq; exact r0
        | 1, hq => cases hq; exact r1
        | 2, hq => cases hq; exact r2
section
variable {H : Type} {enc : TypeId × Value → H} {W : World} {base b0 : Nat} {spare : Nat → Bool} {held : Bool} {r : Reach} {v : Value} {d : DataW H} {p : List MemPlace}
theorem wf64 {n : Int} (h : (Lit.int .i64 n).wf = true) : In64 n := by
  have := bounds_i64 h
  unfold In64
  omega
theorem open_runsA (hv : Value.okWide Try.prog W r b0 50 v) (h : DataW.Trod enc Try.prog W base spare held 50 v d p) : ∃ rs : List Run, SlR W v rs ∧ capOK v := by
  obtain ⟨m, hm⟩ := h
  obtain ⟨a, l, c, rfl⟩ := Go.WideShapes.okWide_slice Try.underlying50 hv
  exact open_runs hm
theorem open_int (hv : Value.okWide Try.prog W r b0 3 v) (h : DataW.Trod enc Try.prog W base spare held 3 v d p) : ∃ n : Int, v = .int .i64 n ∧ In64 n := by
  obtain ⟨m, hm⟩ := h
  obtain ⟨v', rfl⟩ : ∃ n, v = .int .i64 n := Go.WideShapes.okWide_int Try.underlying3 hv
  obtain ⟨n, e, _, wf⟩ := DataW.trod_int Try.underlying3 hm
  simp [Value.cells] at e
  subst e
  exact ⟨_, rfl, wf64 wf⟩
theorem open_two62 (hv : Value.okWide Try.prog W r b0 62 v) (h : DataW.Trod enc Try.prog W base spare held 62 v d p) : ∃ c : Cell, v = c.ev ∧ In64 c.X ∧ In64 c.Y := by
  obtain ⟨v0, v1, y0, y1, n, rfl, _, _, h0, h1⟩ := Go.Joins.open_agg2 Try.underlying62 (by kernel_rfl) (by kernel_rfl) hv h
  obtain ⟨a, e0, _, wa⟩ := DataW.trod_int Try.underlying3 h0
  obtain ⟨b, e1, _, wb⟩ := DataW.trod_int Try.underlying3 h1
  simp at e0 e1
  subst e0 e1
  exact ⟨⟨a, b⟩, rfl, wf64 wa, wf64 wb⟩
theorem open_two23 (hv : Value.okWide Try.prog W r b0 23 v) (h : DataW.Trod enc Try.prog W base spare held 23 v d p) : ∃ c : Spot, v = c.ev ∧ In64 c.X ∧ In64 c.Y := by
  obtain ⟨v0, v1, y0, y1, n, rfl, _, _, h0, h1⟩ := Go.Joins.open_agg2 Try.underlying23 (by kernel_rfl) (by kernel_rfl) hv h
  obtain ⟨a, e0, _, wa⟩ := DataW.trod_int Try.underlying3 h0
  obtain ⟨b, e1, _, wb⟩ := DataW.trod_int Try.underlying3 h1
  simp at e0 e1
  subst e0 e1
  exact ⟨⟨a, b⟩, rfl, wf64 wa, wf64 wb⟩
theorem open_grid (hv : Value.okWide Try.prog W r b0 52 v) (h : DataW.Trod enc Try.prog W base spare held 52 v d p) : ∃ (g : Grid) (lv : Value), v = g.ev lv ∧ SlR W lv g.land ∧ capOK lv ∧ In64 g.W ∧ In64 g.H ∧ In64 g.S := by
  obtain ⟨v0, v1, v2, v3, y0, y1, y2, y3, n, rfl, _, _, h0, h1, h2, h3⟩ := Go.Joins.open_agg4 Try.underlying52 (by kernel_rfl) (by kernel_rfl) hv h
  obtain ⟨a, e0, _, wa⟩ := DataW.trod_int Try.underlying3 h0
  obtain ⟨b, e1, _, wb⟩ := DataW.trod_int Try.underlying3 h1
  obtain ⟨c, e2, _, wc⟩ := DataW.trod_int Try.underlying3 h2
  obtain ⟨rs, hs, hc⟩ := open_runs h3
  simp at e0 e1 e2
  subst e0 e1 e2
  exact ⟨⟨a, b, c, rs⟩, v3, rfl, hs, hc, wf64 wa, wf64 wb, wf64 wc⟩
theorem open_push (hv : Value.okWide Try.prog W r b0 54 v) (h : DataW.Trod enc Try.prog W base spare held 54 v d p) : ∃ q : Push, v = q.ev ∧ In64 q.Low.X ∧ In64 q.Low.Y ∧ In64 q.High.X ∧ In64 q.High.Y := by
  obtain ⟨cs, rfl, hsz⟩ := Go.WideShapes.okWide_struct Try.underlying54 hv
  have hc : Try.prog.cellsOf 54 = 4 := by kernel_rfl
  have hc2 : Try.prog.cellsOf 23 = 2 := by kernel_rfl
  have hc3 : Try.prog.cellsOf 3 = 1 := by kernel_rfl
  obtain ⟨fuel, hf⟩ := h
  obtain ⟨y0, y1, n, _, _, h0, h1⟩ := trod_struct2 Try.underlying54 hf
  obtain ⟨l⟩ := cs
  rw [hc] at hsz
  match l, hsz with
  | [c0, c1, c2, c3], _ =>
    simp only [Value.cells, hc2] at h0 h1
    obtain ⟨_, _, _, _, _, g0, g1⟩ := trod_struct2 Try.underlying23 h0
    obtain ⟨_, _, _, _, _, g2, g3⟩ := trod_struct2 Try.underlying23 h1
    simp only [hc3] at g0 g1 g2 g3
    obtain ⟨n0, e0, _, w0⟩ := DataW.trod_int Try.underlying3 g0
    obtain ⟨n1, e1, _, w1⟩ := DataW.trod_int Try.underlying3 g1
    obtain ⟨n2, e2, _, w2⟩ := DataW.trod_int Try.underlying3 g2
    obtain ⟨n3, e3, _, w3⟩ := DataW.trod_int Try.underlying3 g3
    simp at e0 e1 e2 e3
    subst e0 e1 e2 e3
    exact ⟨⟨⟨n0, n1⟩, ⟨n2, n3⟩⟩, rfl, wf64 w0, wf64 w1, wf64 w2, wf64 w3⟩
theorem open_u8 {t : TypeId} (ht : Try.prog.underlying t = some (.int .u8)) (hv : Value.okWide Try.prog W r b0 t v) (h : DataW.Trod enc Try.prog W base spare held t v d p) : ∃ n : Int, v = .int .u8 n ∧ 0 ≤ n ∧ n ≤ 255 := by
  obtain ⟨m, hm⟩ := h
  obtain ⟨v', rfl⟩ : ∃ n, v = .int .u8 n := Go.WideShapes.okWide_int ht hv
  obtain ⟨n, e, _, wf⟩ := DataW.trod_int ht hm
  simp [Value.cells] at e
  subst e
  exact ⟨_, rfl, bounds_u8 wf⟩
theorem u32_bd {n : Int} (h : (Lit.int .u32 n).wf = true) : 0 ≤ n ∧ n ≤ 4294967295 := by
  simp [Lit.wf, IntKind.min, IntKind.max, IntKind.signed, IntKind.bits] at h
  omega
theorem open_u32 {t : TypeId} (ht : Try.prog.underlying t = some (.int .u32)) (hv : Value.okWide Try.prog W r b0 t v) (h : DataW.Trod enc Try.prog W base spare held t v d p) : ∃ n : Int, v = .int .u32 n ∧ 0 ≤ n ∧ n ≤ 4294967295 := by
  obtain ⟨m, hm⟩ := h
  obtain ⟨v', rfl⟩ : ∃ n, v = .int .u32 n := Go.WideShapes.okWide_int ht hv
  obtain ⟨n, e, _, wf⟩ := DataW.trod_int ht hm
  simp [Value.cells] at e
  subst e
  exact ⟨_, rfl, u32_bd wf⟩
/-- an array of two ints of a kind -/
theorem open_arr2 {t e : TypeId} {k : IntKind} (ht : Try.prog.underlying t = some (.array 2 e)) (he : Try.prog.underlying e = some (.int k)) (hc : Try.prog.cellsOf t = 2) (hce : Try.prog.cellsOf e = 1) (hv : Value.okWide Try.prog W r b0 t v)
    (h : DataW.Trod enc Try.prog W base spare held t v d p) : ∃ a b : Int, v = .agg ⟨[.int k a, .int k b]⟩ ∧ (Lit.int k a).wf = true ∧ (Lit.int k b).wf = true := by
  simp only [Value.okWide, ht] at hv
  obtain ⟨⟨l⟩, rfl, hsz, _⟩ := hv
  obtain ⟨m, hm⟩ := h
  obtain ⟨xs, n, _, _, _, hlen, hf⟩ := DataW.trod_array ht hm
  rw [hc] at hsz
  match l, hsz with
  | [c0, c1], _ =>
    match xs, hlen with
    | [y0, y1], _ =>
      have h0 := hf 0 (by omega)
      have h1 := hf 1 (by omega)
      simp only [Value.cells, hce] at h0 h1
      obtain ⟨n0, e0, _, w0⟩ := DataW.trod_int he (x := y0) (by simpa using h0)
      obtain ⟨n1, e1, _, w1⟩ := DataW.trod_int he (x := y1) (by simpa using h1)
      simp at e0 e1
      subst e0 e1
      exact ⟨n0, n1, rfl, w0, w1⟩
theorem open_a2u32 (hv : Value.okWide Try.prog W r b0 25 v) (h : DataW.Trod enc Try.prog W base spare held 25 v d p) : ∃ c : Int × Int, v = .agg ⟨[.int .u32 c.1, .int .u32 c.2]⟩ ∧ (0 ≤ c.1 ∧ c.1 ≤ 4294967295) ∧ (0 ≤ c.2 ∧ c.2 ≤ 4294967295) := by
  obtain ⟨a, b, rfl, wa, wb⟩ := open_arr2 Try.underlying25 Try.underlying24 (by kernel_rfl) (by kernel_rfl) hv h
  exact ⟨(a, b), rfl, u32_bd wa, u32_bd wb⟩
theorem open_a2u8 (hv : Value.okWide Try.prog W r b0 76 v) (h : DataW.Trod enc Try.prog W base spare held 76 v d p) : ∃ c : Int × Int, v = .agg ⟨[.int .u8 c.1, .int .u8 c.2]⟩ ∧ (0 ≤ c.1 ∧ c.1 ≤ 255) ∧ (0 ≤ c.2 ∧ c.2 ≤ 255) := by
  obtain ⟨a, b, rfl, wa, wb⟩ := open_arr2 Try.underlying76 Try.underlying5 (by kernel_rfl) (by kernel_rfl) hv h
  exact ⟨(a, b), rfl, bounds_u8 wa, bounds_u8 wb⟩
end
end Go.J
