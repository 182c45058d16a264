/-
  Lemmas for the statements of this seat; no statement is proved here. No condition.
-/
import Derived.Test.YtfbmgmdjaoackaaG22
import Derived.Test.YtfbmgmdjaoackaaJIter
namespace Go.J
open Go.RowKit Go.Proofs
set_option maxRecDepth 8000
set_option linter.unusedSimpArgs false
set_option linter.unusedVariables false
def Cell.cs (c : Cell) : List Value := [.int .i64 c.X, .int .i64 c.Y]
def cellRow (v : Value) (l : List Cell) : HP := trow 62 2 Cell.cs v l
/-- the cells of a run, of runs -/
def cellsRun (r : Run) : List Cell := (List.range (r.To - r.From).toNat).map fun (k : Nat) => (⟨r.From + k, r.Y⟩ : Cell)
def cellsAll (rs : List Run) : List Cell := rs.flatMap cellsRun
theorem cellsAll_take {rs : List Run} {k : Nat} (hk : k < rs.length) : cellsAll (rs.take (k + 1)) = cellsAll (rs.take k) ++ cellsRun rs[k] := by
  unfold cellsAll; rw [List.take_succ_eq_append_getElem hk, List.flatMap_append]; simp
theorem cellsRun_get (r : Run) (j : Nat) (hj : (j : Int) < r.To - r.From) : (cellsRun r)[j]? = some ⟨r.From + j, r.Y⟩ := by
  unfold cellsRun
  rw [List.getElem?_map, List.getElem?_range (by omega)]
  rfl
theorem cellsRun_len (r : Run) : (cellsRun r).length = (r.To - r.From).toNat := by simp [cellsRun]
theorem cells_prefix {rs : List Run} {k j : Nat} (hk : k < rs.length) (hj : (j : Int) < rs[k].To - rs[k].From) : (cellsAll (rs.take k) ++ (cellsRun rs[k]).take j) ++ [⟨rs[k].From + j, rs[k].Y⟩] <+: cellsAll rs := by
  have h1 : (cellsRun rs[k]).take (j + 1) = (cellsRun rs[k]).take j ++ [⟨rs[k].From + j, rs[k].Y⟩] := by
    rw [List.take_add_one, cellsRun_get _ j hj]; rfl
  rw [List.append_assoc, ← h1]
  have h2 : rs = rs.take k ++ rs[k] :: rs.drop (k + 1) := by rw [← List.drop_eq_getElem_cons hk, List.take_append_drop]
  refine ⟨(cellsRun rs[k]).drop (j + 1) ++ cellsAll (rs.drop (k + 1)), ?_⟩
  conv => rhs; rw [h2]
  unfold cellsAll
  rw [List.flatMap_append, List.flatMap_cons]
  simp only [List.append_assoc]
  congr 1
  rw [← List.append_assoc, List.take_append_drop]
theorem mem_cellsRun {r : Run} {c : Cell} : c ∈ cellsRun r ↔ r.Y = c.Y ∧ r.From ≤ c.X ∧ c.X < r.To := by
  unfold cellsRun
  rw [List.mem_map]
  constructor
  · rintro ⟨k, hk, rfl⟩
    rw [List.mem_range] at hk
    exact ⟨rfl, by simp only; omega, by simp only; omega⟩
  · rintro ⟨h1, h2, h3⟩
    refine ⟨(c.X - r.From).toNat, List.mem_range.2 (by omega), ?_⟩
    cases c
    simp only [Cell.mk.injEq] at *
    omega
theorem mem_cellsAll {rs : List Run} {c : Cell} : c ∈ cellsAll rs ↔ hasB rs c = true := by
  unfold cellsAll
  rw [List.mem_flatMap, hasB_iff]
  constructor
  · rintro ⟨r, hr, h⟩; exact ⟨r, hr, mem_cellsRun.1 h⟩
  · rintro ⟨r, hr, h⟩; exact ⟨r, hr, mem_cellsRun.2 h⟩
/-- cells$1 yields the cells of the runs that its box holds -/
theorem cells_iter (w0 : World) (b : Nat) (rv : Value) (rs : List Run) (ht : Tame rs) :
    Iter Try.prog 222 [.pointer (some ⟨b, 0, none⟩)] (fun c : Cell => [c.ev]) (cellsAll rs) w0 [] (fun w => LdAt w b 0 (false, 1) rv ∧ b < w.heap.size ∧ SlR w rv rs) := by
  intro l T Tx hrd hy w L X hT H
  replace H : Own w0 w (X ++ L) := H
  obtain ⟨a, cap, rfl⟩ := (hrd _ _ _ _ hT H).2.2.len
  refine calls_J (args := [.func (.yield l) #[] #[], .pointer (some ⟨b, 0, none⟩)]) Try.func222 rfl Try.ntmps222 rfl ?_
  ((repeat refine JC.seq ?_); refine JC.region ?_)
  refine JL.load rfl sh50 (hrd _ _ _ _ hT H).1 rfl ?_
  refine JL.len rfl Try.underlying50 rfl ?_
  refine JL.pure rfl rfl ?_
  refine JL.nil ?_
  ((repeat refine Ex.normal_block ?_); refine Ex.next ?_)
  ((repeat refine JC.seq ?_); refine JC.block ?_)
  ((repeat refine JC.seq ?_); refine JC.loop (ι := Nat × List HP) (fun x => [(0, .func (.yield l) #[] #[]), (6, .slice a rs.length cap), (7, .int .i64 rs.length), (8, .int .i64 x.1)])
    (fun x wr => x.1 ≤ rs.length ∧ T (cellsAll (rs.take x.1)) x.2 ∧ Own w0 wr (X ++ x.2)) (fun x => rs.length - x.1) (0, L) ?_ ?_ ?_)
  · exact ⟨rfl, rfl, rfl, rfl, trivial⟩
  · exact ⟨Nat.zero_le _, hT, H⟩
  · rintro ⟨k, L⟩ wr ⟨hk, hT, H⟩
    simp only at hk hT H
    show JC _ _ _ _ [(0, .func (.yield l) #[] #[]), (6, .slice a rs.length cap), (7, .int .i64 rs.length), (8, .int .i64 k)] _
    ((repeat refine JC.seq ?_); refine JC.region ?_)
    refine JL.pure rfl rfl ?_
    refine JL.nil ?_
    ((repeat refine Ex.normal_block ?_); refine Ex.next ?_)
    ((repeat refine JC.seq ?_); refine JC.cond rfl ?_ ?_)
    · intro h9
      (try simp only [Bool.not_eq_true', Bool.not_eq_false', decide_eq_true_eq, decide_eq_false_iff_not] at h9)
      have h9 : k < rs.length := by omega
      have hsl := (hrd _ _ _ _ hT H).2.2
      obtain ⟨_, _, _, he1, ha'⟩ := id hsl
      cases he1
      obtain ⟨β, off, hra, hβ, hc⟩ := ha'.resolve_left (by rintro rfl; simp at h9)
      have hx : rs[k]? = some rs[k] := by simp [h9]
      have htk := ht _ (List.getElem_mem h9)
      ((repeat refine JC.seq ?_); refine JC.skip ?_)
      ((repeat refine Ex.normal_block ?_); refine Ex.next ?_)
      ((repeat refine JC.seq ?_); refine JC.block ?_)
      ((repeat refine JC.seq ?_); refine JC.region ?_)
      refine JL.indexS k (congrArg (fun z => some (Value.slice z rs.length cap)) hra) rfl Try.underlying50 sh140 rfl h9 rfl ?_
      refine JL.load rfl sh140 (hc k _ hx) rfl ?_
      refine JL.alloc H z140 rfl ?_
      intro b4 w1 H
      refine JL.storeB 0 H rfl rfl sh140 rfl rfl rfl rfl rfl ?_
      intro w2 H
      refine JL.nil ?_
      ((repeat refine Ex.normal_block ?_); refine Ex.next ?_)
      ((repeat refine JC.seq ?_); refine JC.region ?_)
      refine JL.fieldAddr rfl Try.underlying140 rfl sh3 rfl ?_
      refine JL.loadB 0 H rfl sh3 rfl rfl rfl ?_
      refine JL.pure rfl rfl ?_
      refine JL.nil ?_
      ((repeat refine Ex.normal_block ?_); refine Ex.next ?_)
      ((repeat refine JC.seq ?_); refine JC.block ?_)
      ((repeat refine JC.seq ?_); refine JC.loop (ι := Int × List HP) (fun x => [(0, .func (.yield l) #[] #[]), (6, .slice a rs.length cap), (7, .int .i64 rs.length), (8, .int .i64 k), (4, .pointer (some ⟨b4, 0, none⟩)), (5, .int .i64 x.1)])
        (fun x wr => (rs[k].From ≤ x.1 ∧ (x.1 ≤ rs[k].To ∨ x.1 = rs[k].From)) ∧ T (cellsAll (rs.take k) ++ (cellsRun rs[k]).take (x.1 - rs[k].From).toNat) x.2 ∧ Own w0 wr (blk b4 (.cells ⟨[.int .i64 rs[k].Y, .int .i64 rs[k].From, .int .i64 rs[k].To]⟩ 140 (0, 0)) :: (X ++ x.2))) (fun x => (rs[k].To - x.1).toNat) (rs[k].From, L) ?_ ?_ ?_)
      · exact ⟨rfl, rfl, rfl, rfl, rfl, rfl, trivial⟩
      · exact ⟨⟨Int.le_refl _, .inr rfl⟩, by simpa using hT, H⟩
      · rintro ⟨x, L⟩ wr ⟨⟨hx0, hx1⟩, hT, H⟩
        simp only at hx0 hx1 hT H
        show JC _ _ _ _ [(0, .func (.yield l) #[] #[]), (6, .slice a rs.length cap), (7, .int .i64 rs.length), (8, .int .i64 k), (4, .pointer (some ⟨b4, 0, none⟩)), (5, .int .i64 x)] _
        ((repeat refine JC.seq ?_); refine JC.region ?_)
        refine JL.pure rfl rfl ?_
        refine JL.fieldAddr rfl Try.underlying140 rfl sh3 rfl ?_
        refine JL.loadB 0 H rfl sh3 rfl rfl rfl ?_
        refine JL.pure rfl rfl ?_
        refine JL.nil ?_
        ((repeat refine Ex.normal_block ?_); refine Ex.next ?_)
        ((repeat refine JC.seq ?_); refine JC.cond rfl ?_ ?_)
        · intro h17
          (try simp only [Bool.not_eq_true', Bool.not_eq_false', decide_eq_true_eq, decide_eq_false_iff_not] at h17)
          have hpre := cells_prefix (rs := rs) (j := (x - rs[k].From).toNat) h9 (by omega)
          rw [show rs[k].From + ((x - rs[k].From).toNat : Int) = x by omega] at hpre
          ((repeat refine JC.seq ?_); refine JC.skip ?_)
          ((repeat refine Ex.normal_block ?_); refine Ex.next ?_)
          ((repeat refine JC.seq ?_); refine JC.block ?_)
          ((repeat refine JC.seq ?_); refine JC.region ?_)
          refine JL.pure rfl rfl ?_
          refine JL.pure rfl rfl ?_
          refine JL.fieldAddr rfl Try.underlying140 rfl sh3 rfl ?_
          refine JL.loadB 0 H rfl sh3 rfl rfl rfl ?_
          refine JL.build s62 rfl rfl ?_
          refine JL.yield rfl rfl rfl (hy _ (⟨x, rs[k].Y⟩ : Cell) L (blk b4 (.cells ⟨[.int .i64 rs[k].Y, .int .i64 rs[k].From, .int .i64 rs[k].To]⟩ 140 (0, 0)) :: X) _ hpre hT H) ?_
          rintro _ w3 ⟨bb, L9, rfl, hT9, H⟩
          refine ⟨_, rfl, ?_⟩
          refine JL.pure rfl rfl ?_
          refine JL.nil ?_
          ((repeat refine Ex.normal_block ?_); refine Ex.next ?_)
          ((repeat refine JC.seq ?_); refine JC.cond rfl ?_ ?_)
          · intro h26
            (try simp only [Bool.not_eq_true', Bool.not_eq_false', decide_eq_true_eq, decide_eq_false_iff_not] at h26)
            have h26 : bb = false := by simpa using h26
            ((repeat refine JC.seq ?_); refine JC.ret ?_)
            (repeat (first | refine Ex.ret_then ?_ | refine Ex.ret_block ?_))
            refine Ex.ret0 rfl ⟨⟨_, rfl⟩, L9, (show Own w0 _ (_ :: (X ++ L9)) from H).drop 0, .inr ⟨_, hpre, ?_⟩⟩
            rw [h26] at hT9
            exact hT9
          · intro h26
            (try simp only [Bool.not_eq_true', Bool.not_eq_false', decide_eq_true_eq, decide_eq_false_iff_not] at h26)
            have h26 : bb = true := by simpa using h26
            ((repeat refine JC.seq ?_); refine JC.skip ?_)
            ((repeat refine Ex.normal_block ?_); refine Ex.next ?_)
            ((repeat refine JC.seq ?_); refine JC.region ?_)
            refine JL.pure rfl rfl ?_
            refine JL.arith rfl (by unfold In64; omega) rfl ?_
            refine JL.pure rfl rfl ?_
            refine JL.nil ?_
            (repeat refine Ex.normal_block ?_)
            refine Ex.again (x + 1, L9) ⟨rfl, rfl, rfl, rfl, rfl, rfl, trivial⟩ ⟨⟨by simp only; omega, by simp only; omega⟩, ?_, H⟩ (by simp only; omega)
            simp only
            rw [show (x + 1 - rs[k].From).toNat = (x - rs[k].From).toNat + 1 by omega, List.take_add_one, cellsRun_get _ _ (by omega), ← List.append_assoc, show rs[k].From + ((x - rs[k].From).toNat : Int) = x by omega]
            rw [h26] at hT9
            exact hT9
        · intro h17
          (try simp only [Bool.not_eq_true', Bool.not_eq_false', decide_eq_true_eq, decide_eq_false_iff_not] at h17)
          
          ((repeat refine JC.seq ?_); refine JC.exit ?_)
          (repeat (first | refine Ex.exit_then ?_ | refine Ex.exit_miss (by decide) ?_))
          refine Ex.exit_hit ?_
          ((repeat refine Ex.normal_block ?_); refine Ex.next ?_)
          ((repeat refine JC.seq ?_); refine JC.region ?_)
          refine JL.arith rfl (by unfold In64; omega) rfl ?_
          refine JL.pure rfl rfl ?_
          refine JL.nil ?_
          (repeat refine Ex.normal_block ?_)
          have hxx : x = max rs[k].From rs[k].To := by omega
          refine Ex.again (k + 1, L) ⟨rfl, rfl, rfl, rfl, trivial⟩ ⟨h9, ?_, (show Own w0 _ (_ :: (X ++ L)) from H).drop 0⟩ (by simp only; omega)
          simp only
          rw [cellsAll_take h9]
          rwa [List.take_of_length_le (l := cellsRun rs[k]) (by rw [cellsRun_len]; omega)] at hT
    · intro h9
      (try simp only [Bool.not_eq_true', Bool.not_eq_false', decide_eq_true_eq, decide_eq_false_iff_not] at h9)
      have hkk : k = rs.length := by omega
      subst hkk
      rw [List.take_length] at hT
      ((repeat refine JC.seq ?_); refine JC.exit ?_)
      (repeat (first | refine Ex.exit_then ?_ | refine Ex.exit_miss (by decide) ?_))
      refine Ex.exit_hit ?_
      ((repeat refine Ex.normal_block ?_); refine Ex.end_ ?_)
      refine Ex.ret0 rfl ⟨⟨_, rfl⟩, L, H, .inl hT⟩
theorem Own.swap {w0 w : World} {X L : List HP} (H : Own w0 w (X ++ L)) : Own w0 w (L ++ X) := H.perm List.perm_append_comm
theorem ap62 : tyApp Try.prog 62 = some (2, 16) := by kernel_rfl
theorem appendSeq_c {gf : FuncId} {lb : List Value} {items : List Cell} {Rd : World → Prop} (w : World) (hb : hasBody Try.prog gf = true) (hit : Iter Try.prog gf lb (fun c : Cell => [c.ev]) items w [] Rd)
    (hRd : ∀ w', Below w.heap.size w w' → Rd w') (hlen : items.length ≤ 1000000000) :
    Calls Try.prog 221 #[.slice none 0 0, .func (.func gf) #[] ⟨lb⟩] w (fun e w' => ∃ v, e = .returned v ∧ Own w w' [cellRow v items]) := by
  refine calls_J (args := [.slice none 0 0, .func (.func gf) #[] ⟨lb⟩]) Try.func221 rfl Try.ntmps221 rfl ?_
  have H := Own.start w
  ((repeat refine JC.seq ?_); refine JC.region ?_)
  refine JL.box H rfl rfl rfl ?_
  intro b2 w1 H
  refine JL.pure rfl rfl ?_
  refine JL.nil ?_
  ((repeat refine Ex.normal_block ?_); refine Ex.next ?_)
  ((repeat refine JC.seq ?_); refine JC.region ?_)
  refine JL.pure rfl rfl ?_
  refine JL.nil ?_
  ((repeat refine Ex.normal_block ?_); refine Ex.next ?_)
  ((repeat refine JC.seq ?_); refine JC.block ?_)
  ((repeat refine JC.seq ?_); refine JC.rangeFunc (ι := Nat) (A := []) rfl hb hit (fun _ => rfl) rfl (fun pre L => ∃ v, L = [cellRow v pre, blk b2 (.cells ⟨[v]⟩ 68 (0, 0))]) (fun _ _ _ => False) (L0 := [cellRow (.slice none 0 0) [], blk b2 (.cells ⟨[.slice none 0 0]⟩ 68 (0, 0))]) (H.nilRow 62 2) ⟨_, rfl⟩ ?_
    (fun b x => [(2, .pointer (some ⟨b2, 0, none⟩)), (5, .pointer (some ⟨b, 0, none⟩))]) (fun b x => [blk b (.cells ⟨x.cs⟩ 62 (0, 0))]) ?_ ?_ ?_ ?_)
  · rintro pre L X w' _ h
    exact hRd _ h.below
  · intro l pre x L X wr hpx hS H
    ((repeat refine JC.seq ?_); refine JC.region ?_)
    refine JL.alloc H z62 rfl ?_
    intro b5 w2 H
    refine JL.storeB 0 H rfl rfl sh62 rfl rfl rfl rfl rfl ?_
    intro w3 H
    refine JL.nil ?_
    (repeat refine Ex.normal_block ?_)
    refine Ex.asg (E := fun b (x : Cell) => [blk b (.cells ⟨x.cs⟩ 62 (0, 0))]) (F := fun b x => [(2, .pointer (some ⟨b2, 0, none⟩)), (5, .pointer (some ⟨b, 0, none⟩))]) (x := x) (M := X ++ L) b5 ?_ H
    exact ⟨rfl, rfl, trivial⟩
  · rintro l b5 pre x L X wr hpx ⟨v, rfl⟩ H
    have hpl : pre.length + 1 ≤ items.length := by have := hpx.length_le; simpa using this
    replace H : Own w wr (blk b5 (.cells ⟨x.cs⟩ 62 (0, 0)) :: cellRow v pre :: blk b2 (.cells ⟨[v]⟩ 68 (0, 0)) :: X) := H.perm (List.Perm.cons _ (List.perm_append_comm (l₁ := X) (l₂ := [cellRow v pre, blk b2 (.cells ⟨[v]⟩ 68 (0, 0))])))
    ((repeat refine JC.seq ?_); refine JC.block ?_)
    ((repeat refine JC.seq ?_); refine JC.region ?_)
    refine JL.loadB 2 H rfl sh68 rfl rfl rfl ?_
    refine JL.loadB 0 H rfl sh62 rfl rfl rfl ?_
    refine JL.buildSlice H Try.underlying68 sh62 z62 rfl rfl rfl rfl rfl ?_
    intro b10 w4 H
    refine JL.append1 (news := x.cs) 2 0 H Try.underlying68 ap62 rfl rfl rfl rfl rfl rfl (by omega) (by omega) rfl ?_
    intro v2 wa H
    replace H := H.cast (L := _ :: _ :: cellRow v2 (pre ++ [x]) :: _) (by unfold cellRow; rw [← trow_snoc]; rfl)
    obtain ⟨a2, c2, rfl⟩ := H.row_slice (j := 2) rfl
    refine JL.storeB 3 H rfl rfl sh68 rfl rfl rfl rfl rfl ?_
    intro w5 H
    refine JL.nil ?_
    (repeat refine Ex.normal_block ?_)
    have H := (H.drop 0).drop 0
    exact Ex.round [cellRow _ (pre ++ [x]), blk b2 (.cells ⟨[_]⟩ 68 (0, 0))] ⟨_, rfl⟩ H.swap
  · rintro D wr L ⟨v, rfl⟩ H
    ((repeat refine Ex.normal_block ?_); refine Ex.next ?_)
    ((repeat refine JC.seq ?_); refine JC.region ?_)
    refine JL.loadB 2 H rfl sh68 rfl rfl rfl ?_
    refine JL.pure rfl rfl ?_
    refine JL.nil ?_
    ((repeat refine Ex.normal_block ?_); refine Ex.next ?_)
    ((repeat refine JC.seq ?_); refine JC.ret ?_)
    (repeat (first | refine Ex.ret_then ?_ | refine Ex.ret_block ?_))
    refine Ex.retM1 (M := [cellRow v items, blk b2 (.cells ⟨[v]⟩ 68 (0, 0))]) H rfl (fun _ _ => .tmp rfl) (fun w2 H2 => ⟨v, rfl, H2.drop 1⟩)
  · intro D c pre w2 L _ hf; exact hf.elim
theorem collect_c {gf : FuncId} {lb : List Value} {items : List Cell} {Rd : World → Prop} (w : World) (hb : hasBody Try.prog gf = true) (hit : ∀ w0, Iter Try.prog gf lb (fun c : Cell => [c.ev]) items w0 [] Rd)
    (hRd : ∀ w', Below w.heap.size w w' → Rd w') (hlen : items.length ≤ 1000000000) :
    Calls Try.prog 138 #[.func (.func gf) #[] ⟨lb⟩] w (fun e w' => ∃ v, e = .returned v ∧ Own w w' [cellRow v items]) := by
  refine calls_J (args := [.func (.func gf) #[] ⟨lb⟩]) Try.func138 rfl Try.ntmps138 rfl ?_
  have H := Own.start w
  ((repeat refine JC.seq ?_); refine JC.region ?_)
  refine JL.pure rfl rfl ?_
  refine JL.nil ?_
  ((repeat refine Ex.normal_block ?_); refine Ex.next ?_)
  ((repeat refine JC.seq ?_); refine JC.region ?_)
  refine JL.pure rfl rfl ?_
  refine JL.call fb221 rfl rfl (appendSeq_c _ hb (hit _) (fun w' h => hRd w' (by have h1 := H.below; exact h1.trans (h.mono h1.size))) hlen) ?_
  rintro _ w1 ⟨v, rfl, K⟩
  have H := H.join K
  refine ⟨_, rfl, ?_⟩
  refine JL.pure rfl rfl ?_
  refine JL.nil ?_
  ((repeat refine Ex.normal_block ?_); refine Ex.next ?_)
  ((repeat refine JC.seq ?_); refine JC.ret ?_)
  (repeat (first | refine Ex.ret_then ?_ | refine Ex.ret_block ?_))
  refine Ex.ret1 rfl (.tmp rfl) ⟨v, rfl, H⟩
theorem cells_c (w : World) (a : Option Addr) (n c : Nat) : Calls Try.prog 139 #[.slice a n c] w (fun e w' => ∃ b, e = .returned (.func (.func 222) #[] ⟨[.pointer (some ⟨b, 0, none⟩)]⟩) ∧ Own w w' [blk b (.cells ⟨[.slice a n c]⟩ 50 (0, 0))]) := by
  refine calls_J (args := [.slice a n c]) Try.func139 rfl Try.ntmps139 rfl ?_
  have H := Own.start w
  ((repeat refine JC.seq ?_); refine JC.region ?_)
  refine JL.box H rfl rfl rfl ?_
  intro b1 w1 H
  refine JL.pure rfl rfl ?_
  refine JL.nil ?_
  ((repeat refine Ex.normal_block ?_); refine Ex.next ?_)
  ((repeat refine JC.seq ?_); refine JC.region ?_)
  refine JL.pure rfl rfl ?_
  refine JL.pure rfl rfl ?_
  refine JL.nil ?_
  ((repeat refine Ex.normal_block ?_); refine Ex.next ?_)
  ((repeat refine JC.seq ?_); refine JC.ret ?_)
  (repeat (first | refine Ex.ret_then ?_ | refine Ex.ret_block ?_))
  refine Ex.ret1 rfl (.tmp rfl) ⟨_, rfl, H⟩
end Go.J
