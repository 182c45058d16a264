/-
  Lemmas for the statements of this seat; no statement is proved here. No condition.
-/
import Derived.Test.YtfbmgmdjaoackaaM7
namespace Go.J
open Go.RowKit Go.Proofs
set_option maxRecDepth 8000
set_option linter.unusedSimpArgs false
set_option linter.unusedVariables false
theorem hb222 : hasBody Try.prog 222 = true := by kernel_rfl
theorem ap50 : tyApp Try.prog 50 = some (1, 24) := by kernel_rfl
theorem cells_small {g : Grid} (hg : g.ok = true) {a : List Run} (ha : Canon g.W g.H a) : (cellsAll a).length ≤ 65536 := by
  obtain ⟨hW, hH, _, _⟩ := Grid.ok_b hg
  have h1 := countR_cells ha
  rw [countR_every hg ha] at h1
  have h2 := List.countP_le_length (p := hasB a) (l := everyR g.W.toNat g.H.toNat)
  rw [everyR_len] at h2
  have h3 := nat_mul_bd (a := g.W.toNat) (b := g.H.toNat) (by omega) (by omega)
  omega
theorem mset_len {K V : Type} [DecidableEq K] (k : K) (v : V) : ∀ m : List (K × V), (mset m k v).length ≤ m.length + 1 := by
  intro m
  induction m with
  | nil => simp [mset]
  | cons p m ih =>
    simp only [mset]
    split
    · simp
    · simp only [List.length_cons]; omega
theorem parts_c (g : Grid) (lv rv : Value) (r : List Run) (w : World) (hl : SlR w lv g.land) (hr : SlR w rv r) (hs : g.ok = true → g.W * g.H ≤ 4096) :
    Calls Try.prog 92 #[g.ev lv, rv] w (fun e w' => (checkedB g [r] = false ∧ e = .returned (.tuple #[.slice none 0 0, .int .i64 2]) ∧ Own w w' []) ∨
      (checkedB g [r] = true ∧ ∃ ov vs ps m, e = .returned (.tuple #[ov, .int .i64 0]) ∧ vs.length = ps.length ∧ PartsTo g r (cellsAll r) m ps ∧ Own w w' [trow 50 1 (fun v => [v]) ov vs, bag (rowsOf runRow vs ps)])) := by
  obtain ⟨la, lc, rfl⟩ := hl.len
  obtain ⟨ra, rc, rfl⟩ := hr.len
  refine calls_J (args := [g.ev (.slice la g.land.length lc), .slice ra r.length rc]) Try.func92 rfl Try.ntmps92 rfl ?_
  have H := Own.start w
  ((repeat refine JC.seq ?_); refine JC.region ?_)
  refine JL.box H rfl rfl rfl ?_
  intro b2 w1 H
  refine JL.alloc H z134 rfl ?_
  intro b4 w2 H
  refine JL.alloc H z28 rfl ?_
  intro b5 w3 H
  refine JL.nil ?_
  ((repeat refine Ex.normal_block ?_); refine Ex.next ?_)
  ((repeat refine JC.seq ?_); refine JC.region ?_)
  refine JL.loadB 2 H rfl sh52 rfl rfl rfl ?_
  refine JL.pure rfl rfl ?_
  refine JL.buildSlice H Try.underlying134 sh50 z50 rfl rfl rfl rfl rfl ?_
  intro b17 w4 H
  refine JL.callP H fb129 rfl rfl (checked_c g _ _ [(.slice ra r.length rc, r)] _ (hl.grow H.below) (H.blkSl1 (j := 0) (ev := Prod.fst) rfl [(.slice ra r.length rc, r)] rfl (by simp)) (by
    have hB := H.below
    intro p hp
    simp only [List.mem_cons, List.not_mem_nil, or_false] at hp
    subst hp
    exact hr.grow hB)) ?_
  intro w5 H _
  refine JL.pure rfl rfl ?_
  refine JL.nil ?_
  ((repeat refine Ex.normal_block ?_); refine Ex.next ?_)
  ((repeat refine JC.seq ?_); refine JC.region ?_)
  refine JL.pure rfl rfl ?_
  refine JL.pure rfl rfl ?_
  refine JL.nil ?_
  ((repeat refine Ex.normal_block ?_); refine Ex.next ?_)
  ((repeat refine JC.seq ?_); refine JC.cond rfl ?_ ?_)
  · intro h20
    (try simp only [Bool.not_eq_true', Bool.not_eq_false', decide_eq_true_eq, decide_eq_false_iff_not] at h20)
    have hok : checkedB g [r] = false := by
      cases hc : checkedB g [r] with
      | false => rfl
      | true => exfalso; simp [hc] at h20
    ((repeat refine JC.seq ?_); refine JC.region ?_)
    refine JL.pure rfl rfl ?_
    refine JL.storeB 2 H rfl rfl sh134 rfl rfl rfl rfl rfl ?_
    intro w6 H
    refine JL.storeB 1 H rfl rfl sh28 rfl rfl rfl rfl rfl ?_
    intro w7 H
    refine JL.nil ?_
    ((repeat refine Ex.normal_block ?_); refine Ex.next ?_)
    ((repeat refine JC.seq ?_); refine JC.ret ?_)
    (repeat (first | refine Ex.ret_then ?_ | refine Ex.ret_block ?_))
    refine Ex.ret2 rfl (.cell rfl sh134 (LdAt.of_block (H.get (i := 2) rfl).2 rfl)) (.cell rfl sh28 (LdAt.of_block (H.get (i := 1) rfl).2 rfl)) (.inl ⟨hok, ?_, (((H.drop 0).drop 0).drop 0).drop 0⟩)
    simp [hok]
  · intro h20
    (try simp only [Bool.not_eq_true', Bool.not_eq_false', decide_eq_true_eq, decide_eq_false_iff_not] at h20)
    have hok : checkedB g [r] = true := by
      cases hc : checkedB g [r] with
      | true => rfl
      | false => exfalso; simp [hc] at h20
    obtain ⟨hgok, hall⟩ := checkedB_b hok
    obtain ⟨hgW, hgH, hgS, hgl⟩ := Grid.ok_b hgok
    have hcan := canon_of_right (hall r (by simp))
    have htm := tame_right hgW.2 hcan
    have hsz := cells_small hgok hcan
    ((repeat refine JC.seq ?_); refine JC.skip ?_)
    ((repeat refine Ex.normal_block ?_); refine Ex.next ?_)
    ((repeat refine JC.seq ?_); refine JC.region ?_)
    refine JL.makeMap Cell.ev Value.bool H rfl ?_
    intro β w1 H
    refine JL.alloc H z201 rfl ?_
    intro b7 w8 H
    refine JL.storeB 0 H rfl rfl sh201 rfl rfl rfl rfl rfl ?_
    intro w9 H
    refine JL.nil ?_
    ((repeat refine Ex.normal_block ?_); refine Ex.next ?_)
    ((repeat refine JC.seq ?_); refine JC.region ?_)
    refine JL.pure rfl rfl ?_
    refine JL.call fb139 rfl rfl (cells_c _ ra r.length rc) ?_
    rintro _ w10 ⟨bc, rfl, K⟩
    have H := H.join K
    refine ⟨_, rfl, ?_⟩
    refine JL.nil ?_
    ((repeat refine Ex.normal_block ?_); refine Ex.next ?_)
    ((repeat refine JC.seq ?_); refine JC.block ?_)
    ((repeat refine JC.seq ?_); refine JC.rangeFunc (ι := Nat) (A := []) rfl hb222 (cells_iter w bc (.slice ra r.length rc) r htm) (fun _ => rfl) rfl (fun pre L => ∃ m, MSet m (fun c => c ∈ pre) ∧ m.length ≤ pre.length ∧ L = [blk bc (.cells ⟨[.slice ra r.length rc]⟩ 50 (0, 0)), blk b7 (.cells ⟨[.map (some β)]⟩ 201 (0, 0)), setM β m, blk b17 (.cells ⟨[.slice ra r.length rc]⟩ 50 (0, 0)), blk b5 (.cells ⟨[.int .i64 0]⟩ 28 (0, 0)), blk b4 (.cells ⟨[.slice none 0 0]⟩ 134 (0, 0)), blk b2 (.cells ⟨[.int .i64 g.W, .int .i64 g.H, .int .i64 g.S, .slice la g.land.length lc]⟩ 52 (0, 0))]) (fun _ _ _ => False) (L0 := [blk bc (.cells ⟨[.slice ra r.length rc]⟩ 50 (0, 0)), blk b7 (.cells ⟨[.map (some β)]⟩ 201 (0, 0)), setM β [], blk b17 (.cells ⟨[.slice ra r.length rc]⟩ 50 (0, 0)), blk b5 (.cells ⟨[.int .i64 0]⟩ 28 (0, 0)), blk b4 (.cells ⟨[.slice none 0 0]⟩ 134 (0, 0)), blk b2 (.cells ⟨[.int .i64 g.W, .int .i64 g.H, .int .i64 g.S, .slice la g.land.length lc]⟩ 52 (0, 0))]) H ⟨[], MSet.nil.congr (fun c => by simp), Nat.le_refl _, rfl⟩ ?_
      (fun b x => [(7, .pointer (some ⟨b7, 0, none⟩)), (8, .pointer (some ⟨b, 0, none⟩))]) (fun b (x : Cell) => [blk b (.cells ⟨x.cs⟩ 62 (0, 0))]) ?_ ?_ ?_ ?_)
    · rintro pre L X w' ⟨m, _, _, rfl⟩ h
      have hg := h.swap.get (i := 0) rfl
      exact ⟨LdAt.of_block hg.2 rfl, lt_of_block hg.2, hr.grow h.below⟩
    · intro l pre x L X wr hpx hS H
      ((repeat refine JC.seq ?_); refine JC.region ?_)
      refine JL.alloc H z62 rfl ?_
      intro b8 w11 H
      refine JL.storeB 0 H rfl rfl sh62 rfl rfl rfl rfl rfl ?_
      intro w12 H
      refine JL.nil ?_
      (repeat refine Ex.normal_block ?_)
      refine Ex.asg (E := (fun b (x : Cell) => [blk b (.cells ⟨x.cs⟩ 62 (0, 0))])) (F := (fun b x => [(7, .pointer (some ⟨b7, 0, none⟩)), (8, .pointer (some ⟨b, 0, none⟩))])) (x := x) (M := X ++ L) b8 ?_ H
      exact ⟨rfl, rfl, trivial⟩
    · rintro l b8 pre x L X wr hpx ⟨m, hm, hml, rfl⟩ H
      replace H : Own w wr (blk b8 (.cells ⟨x.cs⟩ 62 (0, 0)) :: blk bc (.cells ⟨[.slice ra r.length rc]⟩ 50 (0, 0)) :: blk b7 (.cells ⟨[.map (some β)]⟩ 201 (0, 0)) :: setM β m :: blk b17 (.cells ⟨[.slice ra r.length rc]⟩ 50 (0, 0)) :: blk b5 (.cells ⟨[.int .i64 0]⟩ 28 (0, 0)) :: blk b4 (.cells ⟨[.slice none 0 0]⟩ 134 (0, 0)) :: blk b2 (.cells ⟨[.int .i64 g.W, .int .i64 g.H, .int .i64 g.S, .slice la g.land.length lc]⟩ 52 (0, 0)) :: X) := H.perm (List.Perm.cons _ (List.perm_append_comm (l₁ := X) (l₂ := [blk bc (.cells ⟨[.slice ra r.length rc]⟩ 50 (0, 0)), blk b7 (.cells ⟨[.map (some β)]⟩ 201 (0, 0)), setM β m, blk b17 (.cells ⟨[.slice ra r.length rc]⟩ 50 (0, 0)), blk b5 (.cells ⟨[.int .i64 0]⟩ 28 (0, 0)), blk b4 (.cells ⟨[.slice none 0 0]⟩ 134 (0, 0)), blk b2 (.cells ⟨[.int .i64 g.W, .int .i64 g.H, .int .i64 g.S, .slice la g.land.length lc]⟩ 52 (0, 0))])))
      ((repeat refine JC.seq ?_); refine JC.block ?_)
      ((repeat refine JC.seq ?_); refine JC.region ?_)
      refine JL.loadB 2 H rfl sh201 rfl rfl rfl ?_
      refine JL.loadB 0 H rfl sh62 rfl rfl rfl ?_
      refine JL.mapUpdate 3 H x true rfl rfl rfl Try.underlying201 keyCell rfl rfl ?_
      intro w13 H
      refine JL.nil ?_
      (repeat refine Ex.normal_block ?_)
      have H := H.drop 0
      exact Ex.round [blk bc (.cells ⟨[.slice ra r.length rc]⟩ 50 (0, 0)), blk b7 (.cells ⟨[.map (some β)]⟩ 201 (0, 0)), setM β (mset m x true), blk b17 (.cells ⟨[.slice ra r.length rc]⟩ 50 (0, 0)), blk b5 (.cells ⟨[.int .i64 0]⟩ 28 (0, 0)), blk b4 (.cells ⟨[.slice none 0 0]⟩ 134 (0, 0)), blk b2 (.cells ⟨[.int .i64 g.W, .int .i64 g.H, .int .i64 g.S, .slice la g.land.length lc]⟩ 52 (0, 0))] ⟨_, (hm.set x).congr (fun c => by simp), by have := mset_len x true m; simp only [List.length_append, List.length_singleton]; omega, rfl⟩ H.swap
    · rintro D wr L ⟨m0, hm0, hml0, rfl⟩ H
      ((repeat refine Ex.normal_block ?_); refine Ex.next ?_)
      ((repeat refine JC.seq ?_); refine JC.region ?_)
      refine JL.alloc H z192 rfl ?_
      intro b9 w14 H
      refine JL.nil ?_
      ((repeat refine Ex.normal_block ?_); refine Ex.next ?_)
      ((repeat refine JC.seq ?_); refine JC.region ?_)
      refine JL.alloc H z263 rfl ?_
      intro b10 w15 H
      refine JL.nil ?_
      ((repeat refine Ex.normal_block ?_); refine Ex.next ?_)
      ((repeat refine JC.seq ?_); refine JC.region ?_)
      refine JL.pure rfl rfl ?_
      refine JL.storeB 0 H rfl rfl sh263 rfl rfl rfl rfl rfl ?_
      intro w16 H
      refine JL.nil ?_
      ((repeat refine Ex.normal_block ?_); refine Ex.next ?_)
      ((repeat refine JC.seq ?_); refine JC.region ?_)
      refine JL.alloc H z134 rfl ?_
      intro b11 w17 H
      refine JL.nil ?_
      ((repeat refine Ex.normal_block ?_); refine Ex.next ?_)
      ((repeat refine JC.seq ?_); refine JC.region ?_)
      refine JL.pure rfl rfl ?_
      refine JL.call fb139 rfl rfl (cells_c _ ra r.length rc) ?_
      rintro _ w18 ⟨bc2, rfl, K⟩
      have H := H.join K
      have H := H.nilRow 50 1
      have H := (show Own _ _ ([] ++ _) from H).pack
      have H := H.front 2 rfl
      have H := H.front 1 rfl
      have H := H.front 2 rfl
      have H := H.front 3 rfl
      have H := H.front 4 rfl
      have H := H.front 13 rfl
      have H := H.front 6 rfl
      have H := H.front 9 rfl
      have H := H.front 10 rfl
      refine ⟨_, rfl, ?_⟩
      refine JL.nil ?_
      ((repeat refine Ex.normal_block ?_); refine Ex.next ?_)
      ((repeat refine JC.seq ?_); refine JC.block ?_)
      ((repeat refine JC.seq ?_); refine JC.rangeFunc (ι := Nat) (A := []) rfl hb222 (cells_iter w bc2 (.slice ra r.length rc) r htm) (fun _ => rfl) rfl (fun pre L => ∃ m tv ov vs ps, PartsTo g r pre m ps ∧ vs.length = ps.length ∧ m.length ≤ 65536 ∧ L = [setM β m, blk b7 (.cells ⟨[.map (some β)]⟩ 201 (0, 0)), blk b9 (.cells ⟨[tv]⟩ 192 (0, 0)), blk b2 (.cells ⟨[.int .i64 g.W, .int .i64 g.H, .int .i64 g.S, .slice la g.land.length lc]⟩ 52 (0, 0)), blk b10 (.cells ⟨[.func (.func 187) #[] ⟨[.pointer (some ⟨b7, 0, none⟩), .pointer (some ⟨b9, 0, none⟩), .pointer (some ⟨b2, 0, none⟩), .pointer (some ⟨b10, 0, none⟩)]⟩]⟩ 263 (0, 0)), blk b11 (.cells ⟨[ov]⟩ 134 (0, 0)), trow 50 1 (fun v => [v]) ov vs, bag (rowsOf runRow vs ps), blk bc2 (.cells ⟨[.slice ra r.length rc]⟩ 50 (0, 0)), dfr D, blk bc (.cells ⟨[.slice ra r.length rc]⟩ 50 (0, 0)), blk b17 (.cells ⟨[.slice ra r.length rc]⟩ 50 (0, 0)), blk b5 (.cells ⟨[.int .i64 0]⟩ 28 (0, 0)), blk b4 (.cells ⟨[.slice none 0 0]⟩ 134 (0, 0))]) (fun _ _ _ => False) (L0 := [setM β m0, blk b7 (.cells ⟨[.map (some β)]⟩ 201 (0, 0)), blk b9 (.cells ⟨[.pointer none]⟩ 192 (0, 0)), blk b2 (.cells ⟨[.int .i64 g.W, .int .i64 g.H, .int .i64 g.S, .slice la g.land.length lc]⟩ 52 (0, 0)), blk b10 (.cells ⟨[.func (.func 187) #[] ⟨[.pointer (some ⟨b7, 0, none⟩), .pointer (some ⟨b9, 0, none⟩), .pointer (some ⟨b2, 0, none⟩), .pointer (some ⟨b10, 0, none⟩)]⟩]⟩ 263 (0, 0)), blk b11 (.cells ⟨[.slice none 0 0]⟩ 134 (0, 0)), trow 50 1 (fun v => [v]) (.slice none 0 0) [], bag (rowsOf runRow [] []), blk bc2 (.cells ⟨[.slice ra r.length rc]⟩ 50 (0, 0)), dfr D, blk bc (.cells ⟨[.slice ra r.length rc]⟩ 50 (0, 0)), blk b17 (.cells ⟨[.slice ra r.length rc]⟩ 50 (0, 0)), blk b5 (.cells ⟨[.int .i64 0]⟩ 28 (0, 0)), blk b4 (.cells ⟨[.slice none 0 0]⟩ 134 (0, 0))]) H ⟨m0, _, _, [], [], PartsTo.start (fun x => (hm0 x).trans mem_cellsAll), rfl, by omega, rfl⟩ ?_
        (fun b x => [(7, .pointer (some ⟨b7, 0, none⟩)), (9, .pointer (some ⟨b9, 0, none⟩)), (10, .pointer (some ⟨b10, 0, none⟩)), (11, .pointer (some ⟨b11, 0, none⟩)), (12, .pointer (some ⟨b, 0, none⟩))]) (fun b (x : Cell) => [blk b (.cells ⟨x.cs⟩ 62 (0, 0))]) ?_ ?_ ?_ ?_)
      · rintro pre L X w' ⟨m, tv, ov, vs, ps, _, _, _, rfl⟩ h
        have hg := h.swap.get (i := 8) rfl
        exact ⟨LdAt.of_block hg.2 rfl, lt_of_block hg.2, hr.grow h.below⟩
      · intro l pre x L X wr hpx hS H
        ((repeat refine JC.seq ?_); refine JC.region ?_)
        refine JL.alloc H z62 rfl ?_
        intro b12 w19 H
        refine JL.storeB 0 H rfl rfl sh62 rfl rfl rfl rfl rfl ?_
        intro w20 H
        refine JL.nil ?_
        (repeat refine Ex.normal_block ?_)
        refine Ex.asg (E := (fun b (x : Cell) => [blk b (.cells ⟨x.cs⟩ 62 (0, 0))])) (F := (fun b x => [(7, .pointer (some ⟨b7, 0, none⟩)), (9, .pointer (some ⟨b9, 0, none⟩)), (10, .pointer (some ⟨b10, 0, none⟩)), (11, .pointer (some ⟨b11, 0, none⟩)), (12, .pointer (some ⟨b, 0, none⟩))])) (x := x) (M := X ++ L) b12 ?_ H
        exact ⟨rfl, rfl, rfl, rfl, rfl, trivial⟩
      · rintro l b12 pre x L X wr hpx ⟨m, tv, ov, vs, ps, hP, hvl, hml, rfl⟩ H
        replace H : Own w wr (blk b12 (.cells ⟨x.cs⟩ 62 (0, 0)) :: ([setM β m, blk b7 (.cells ⟨[.map (some β)]⟩ 201 (0, 0)), blk b9 (.cells ⟨[tv]⟩ 192 (0, 0)), blk b2 (.cells ⟨[.int .i64 g.W, .int .i64 g.H, .int .i64 g.S, .slice la g.land.length lc]⟩ 52 (0, 0)), blk b10 (.cells ⟨[.func (.func 187) #[] ⟨[.pointer (some ⟨b7, 0, none⟩), .pointer (some ⟨b9, 0, none⟩), .pointer (some ⟨b2, 0, none⟩), .pointer (some ⟨b10, 0, none⟩)]⟩]⟩ 263 (0, 0)), blk b11 (.cells ⟨[ov]⟩ 134 (0, 0)), trow 50 1 (fun v => [v]) ov vs, bag (rowsOf runRow vs ps), blk bc2 (.cells ⟨[.slice ra r.length rc]⟩ 50 (0, 0)), dfr D, blk bc (.cells ⟨[.slice ra r.length rc]⟩ 50 (0, 0)), blk b17 (.cells ⟨[.slice ra r.length rc]⟩ 50 (0, 0)), blk b5 (.cells ⟨[.int .i64 0]⟩ 28 (0, 0)), blk b4 (.cells ⟨[.slice none 0 0]⟩ 134 (0, 0))] ++ X)) := H.perm (List.Perm.cons _ (List.perm_append_comm (l₁ := X) (l₂ := [setM β m, blk b7 (.cells ⟨[.map (some β)]⟩ 201 (0, 0)), blk b9 (.cells ⟨[tv]⟩ 192 (0, 0)), blk b2 (.cells ⟨[.int .i64 g.W, .int .i64 g.H, .int .i64 g.S, .slice la g.land.length lc]⟩ 52 (0, 0)), blk b10 (.cells ⟨[.func (.func 187) #[] ⟨[.pointer (some ⟨b7, 0, none⟩), .pointer (some ⟨b9, 0, none⟩), .pointer (some ⟨b2, 0, none⟩), .pointer (some ⟨b10, 0, none⟩)]⟩]⟩ 263 (0, 0)), blk b11 (.cells ⟨[ov]⟩ 134 (0, 0)), trow 50 1 (fun v => [v]) ov vs, bag (rowsOf runRow vs ps), blk bc2 (.cells ⟨[.slice ra r.length rc]⟩ 50 (0, 0)), dfr D, blk bc (.cells ⟨[.slice ra r.length rc]⟩ 50 (0, 0)), blk b17 (.cells ⟨[.slice ra r.length rc]⟩ 50 (0, 0)), blk b5 (.cells ⟨[.int .i64 0]⟩ 28 (0, 0)), blk b4 (.cells ⟨[.slice none 0 0]⟩ 134 (0, 0))])))
        simp only [List.cons_append, List.nil_append] at H
        ((repeat refine JC.seq ?_); refine JC.block ?_)
        ((repeat refine JC.seq ?_); refine JC.region ?_)
        refine JL.loadB 2 H rfl sh201 rfl rfl rfl ?_
        refine JL.loadB 0 H rfl sh62 rfl rfl rfl ?_
        refine JL.lookupM 1 H x false rfl rfl rfl Try.underlying201 keyCell zero4 rfl ?_
        show JL _ _ _ _ _ (Fr.put _ (Value.bool (setR m x)) _) _
        refine JL.pure rfl rfl ?_
        refine JL.nil ?_
        ((repeat refine Ex.normal_block ?_); refine Ex.next ?_)
        ((repeat refine JC.seq ?_); refine JC.cond rfl ?_ ?_)
        · intro h35
          (try simp only [Bool.not_eq_true', Bool.not_eq_false', decide_eq_true_eq, decide_eq_false_iff_not] at h35)
          have hx : setR m x = false := by simpa using h35
          ((repeat refine JC.seq ?_); refine JC.exit ?_)
          (repeat (first | refine Ex.exit_then ?_ | refine Ex.exit_miss (by decide) ?_))
          refine Ex.exit_hit ?_
          (repeat refine Ex.normal_block ?_)
          have H := H.drop 0
          exact Ex.round _ ⟨m, tv, ov, vs, ps, hP.skip (by rw [hx]; simp), hvl, hml, rfl⟩ (Own.swap (X := [setM β m, blk b7 (.cells ⟨[.map (some β)]⟩ 201 (0, 0)), blk b9 (.cells ⟨[tv]⟩ 192 (0, 0)), blk b2 (.cells ⟨[.int .i64 g.W, .int .i64 g.H, .int .i64 g.S, .slice la g.land.length lc]⟩ 52 (0, 0)), blk b10 (.cells ⟨[.func (.func 187) #[] ⟨[.pointer (some ⟨b7, 0, none⟩), .pointer (some ⟨b9, 0, none⟩), .pointer (some ⟨b2, 0, none⟩), .pointer (some ⟨b10, 0, none⟩)]⟩]⟩ 263 (0, 0)), blk b11 (.cells ⟨[ov]⟩ 134 (0, 0)), trow 50 1 (fun v => [v]) ov vs, bag (rowsOf runRow vs ps), blk bc2 (.cells ⟨[.slice ra r.length rc]⟩ 50 (0, 0)), dfr D, blk bc (.cells ⟨[.slice ra r.length rc]⟩ 50 (0, 0)), blk b17 (.cells ⟨[.slice ra r.length rc]⟩ 50 (0, 0)), blk b5 (.cells ⟨[.int .i64 0]⟩ 28 (0, 0)), blk b4 (.cells ⟨[.slice none 0 0]⟩ 134 (0, 0))]) H)
        · intro h35
          (try simp only [Bool.not_eq_true', Bool.not_eq_false', decide_eq_true_eq, decide_eq_false_iff_not] at h35)
          have hx : setR m x = true := by simpa using h35
          ((repeat refine JC.seq ?_); refine JC.skip ?_)
          ((repeat refine Ex.normal_block ?_); refine Ex.next ?_)
          ((repeat refine JC.seq ?_); refine JC.region ?_)
          refine JL.buildA Try.underlying195 sh193 za195 rfl rfl ?_
          refine JL.box H rfl rfl rfl ?_
          intro b37 w21 H
          have H := H.newT
          refine JL.storeB 4 H rfl rfl sh192 rfl rfl rfl rfl rfl ?_
          intro w9 H
          refine JL.nil ?_
          ((repeat refine Ex.normal_block ?_); refine Ex.next ?_)
          ((repeat refine JC.seq ?_); refine JC.region ?_)
          refine JL.loadB 6 H rfl sh263 rfl rfl rfl ?_
          refine JL.loadB 1 H rfl sh62 rfl rfl rfl ?_
          have hin : ∀ y, setR m y = true → inG g y := fun y hy => canon_inG hcan (hP.sub y hy)
          refine JL.callv rfl fb187 rfl rfl (fill_c g la g.land.length lc β b37 b7 b9 b2 b10 hgok (m.length + 1) w _ (_ :: _ :: _ :: _ :: _ :: _ :: _ :: _ :: _ :: _ :: X) m tab0 x 0 (mtb_out (Y := [_]) (X := _ :: _ :: _ :: _ :: _ :: _ :: _ :: _ :: _ :: X) (H.perm ((List.Perm.swap _ _ _).trans (List.Perm.cons _ (List.Perm.swap _ _ _))))) (by omega) hin (tab0_good _) (by omega)) ?_
          rintro _ w22 ⟨rfl, m2, T2, H, hw, hout⟩
          obtain ⟨hfit, hP2⟩ := PartsTo.fill hgok (hs hgok) hcan hP hpx hx hw hout
          unfold mtb at H
          simp only [List.cons_append, List.nil_append] at H
          refine ⟨_, rfl, ?_⟩
          refine JL.nil ?_
          ((repeat refine Ex.normal_block ?_); refine Ex.next ?_)
          ((repeat refine JC.seq ?_); refine JC.region ?_)
          refine JL.loadB 3 H rfl sh192 rfl rfl rfl ?_
          refine JL.call fb131 rfl rfl (region_c2 (H.perm (List.Perm.swap _ _ _)) (hw.good 0 (tab0_good _)) (by omega) hgW.2) ?_
          rw [hfit]
          rintro _ w23 ⟨rv, rfl, H⟩
          obtain ⟨pa, pc, rfl⟩ := H.row_slice (j := 0) rfl
          refine ⟨_, rfl, ?_⟩
          refine JL.pure rfl rfl ?_
          refine JL.pure rfl rfl ?_
          refine JL.pure rfl rfl ?_
          refine JL.pure rfl rfl ?_
          refine JL.pure rfl rfl ?_
          refine JL.nil ?_
          ((repeat refine Ex.normal_block ?_); refine Ex.next ?_)
          ((repeat refine JC.seq ?_); refine JC.region ?_)
          refine JL.pure rfl rfl ?_
          refine JL.pure rfl rfl ?_
          refine JL.re 47 rfl (v' := .bool false) rfl ?_
          refine JL.nil ?_
          ((repeat refine Ex.normal_block ?_); refine Ex.next ?_)
          ((repeat refine JC.seq ?_); refine JC.cond rfl (fun h => by cases h) (fun _ => ?_))
          ((repeat refine JC.seq ?_); refine JC.skip ?_)
          ((repeat refine Ex.normal_block ?_); refine Ex.next ?_)
          ((repeat refine JC.seq ?_); refine JC.region ?_)
          refine JL.loadB 7 H rfl sh134 rfl rfl rfl ?_
          refine JL.pure rfl rfl ?_
          refine JL.buildSlice H Try.underlying134 sh50 z50 rfl rfl rfl rfl rfl ?_
          intro b51 w24 H
          have hvb : vs.length ≤ 65536 := by
            have h1 := hP.len
            have h2 := hpx.length_le
            rw [List.length_append] at h2
            omega
          refine JL.append1 (news := [.slice pa (regR T2).length pc]) 9 0 H Try.underlying134 ap50 rfl rfl rfl rfl rfl rfl (by omega) (by omega) rfl ?_
          intro ov2 w25 H
          have H := H.upd (j := 9) (B := trow 50 1 (fun v => [v]) ov2 (vs ++ [.slice pa (regR T2).length pc])) rfl (fun h hh => by rw [← trow_snoc]; exact hh)
          obtain ⟨oa, oc, rfl⟩ := H.row_slice (j := 9) rfl
          refine JL.storeB 8 H rfl rfl sh134 rfl rfl rfl rfl rfl ?_
          intro w26 H
          refine JL.nil ?_
          (repeat refine Ex.normal_block ?_)
          have H := (((H.drop 0).drop 6).front 8 rfl).unpack
          have H := Own.pack (M := rowsOf runRow vs ps ++ [_]) (H.cast (List.append_assoc _ [_] _))
          rw [← rowsOf_snoc hvl] at H
          have H := H.perm (List.perm_middle (l₁ := [_, _, _, _, _, _, _])).symm
          exact Ex.round _ ⟨m2, _, _, _, _, hP2, by simp [hvl], by have := hw.len; omega, rfl⟩ (Own.swap (X := [_, _, _, _, _, _, _, _, _, _, _, _, _, _]) H)
      · rintro D2 wr L ⟨m, tv, ov, vs, ps, hP, hvl, hml, rfl⟩ H
        obtain ⟨oa, oc, rfl⟩ := H.row_slice (j := 7) rfl
        ((repeat refine Ex.normal_block ?_); refine Ex.next ?_)
        ((repeat refine JC.seq ?_); refine JC.region ?_)
        refine JL.loadB 6 H rfl sh134 rfl rfl rfl ?_
        refine JL.storeB 14 H rfl rfl sh134 rfl rfl rfl rfl rfl ?_
        intro w27 H
        refine JL.storeB 13 H rfl rfl sh28 rfl rfl rfl rfl rfl ?_
        intro w28 H
        refine JL.nil ?_
        ((repeat refine Ex.normal_block ?_); refine Ex.next ?_)
        ((repeat refine JC.seq ?_); refine JC.ret ?_)
        (repeat (first | refine Ex.ret_then ?_ | refine Ex.ret_block ?_))
        have H := (H.front 10 rfl).front 1 rfl
        exact Ex.retM2 (M := [_, _, _, _, _, _, _, _, _, _, _, _, _]) H rfl (fun w2 H2 => .cell rfl sh134 (LdAt.of_block (H2.get (i := 12) rfl).2 rfl)) (fun w2 H2 => .cell rfl sh28 (LdAt.of_block (H2.get (i := 11) rfl).2 rfl))
          (fun w2 H2 => .inr ⟨hok, _, vs, ps, m, rfl, hvl, hP, (((((((((((H2.drop 0).drop 0).drop 0).drop 0).drop 0).drop 0).drop 2).drop 2).drop 2).drop 2).drop 2)⟩)
      · intro D c pre w2 L _ hf; exact hf.elim
    · intro D c pre w2 L _ hf; exact hf.elim
end Go.J

namespace Go.J
set_option linter.unusedSimpArgs false
set_option linter.unusedVariables false
/-! plain: the cells of parts, each with its part's number -/
def ofPart (p : List Run) (k : Int) : List (Cell × Int) := (cellsAll p).map fun c => (c, k)
def ofAll (ps : List (List Run)) : Nat → List (Cell × Int)
  | 0 => []
  | i + 1 => ofAll ps i ++ ofPart (ps.getD i []) ((i : Int) + 1)
theorem ofAll_mem {ps : List (List Run)} : ∀ {i : Nat} {c : Cell} {k : Int}, (c, k) ∈ ofAll ps i ↔ ∃ j, j < i ∧ k = (j : Int) + 1 ∧ hasB (ps.getD j []) c = true := by
  intro i
  induction i with
  | zero => intro c k; simp [ofAll]
  | succ i ih =>
    intro c k
    rw [ofAll, List.mem_append, ih]
    unfold ofPart
    rw [List.mem_map]
    constructor
    · rintro (⟨j, h1, h2, h3⟩ | ⟨x, hx, he⟩)
      · exact ⟨j, by omega, h2, h3⟩
      · cases he
        exact ⟨i, by omega, rfl, mem_cellsAll.1 hx⟩
    · rintro ⟨j, h1, h2, h3⟩
      by_cases e : j = i
      · subst e; exact .inr ⟨c, mem_cellsAll.2 h3, by rw [h2]⟩
      · exact .inl ⟨j, by omega, h2, h3⟩
theorem getD_get {ps : List (List Run)} {j : Nat} (h : j < ps.length) : ps.getD j [] = ps[j] := by rw [List.getD_eq_getElem?_getD, List.getElem?_eq_getElem h]; rfl
section
variable {g : Grid} {r : List Run} {m : List (Cell × Bool)} {ps : List (List Run)}
theorem parts_apart (h : PartsTo g r (cellsAll r) m ps) {i j : Nat} (hi : i < ps.length) (hj : j < ps.length) (hij : i ≠ j) {x : Cell} (hx : hasB ps[i] x = true) : ¬ hasB ps[j] x = true ∧ ∀ d ∈ sidesL x, ¬ hasB ps[j] d = true := by
  have hp := List.pairwise_iff_getElem.1 h.apart
  rcases Nat.lt_or_gt_of_ne hij with hlt | hlt
  · exact hp i j hi hj hlt x hx
  · refine ⟨fun e => (hp j i hj hi hlt x e).1 hx, fun d hd e => ?_⟩
    exact (hp j i hj hi hlt d e).2 x (sides_symm.1 hd) hx
theorem part_pos (h : PartsTo g r (cellsAll r) m ps) {p : List Run} (hp : p ∈ ps) : 0 < (cellsAll p).length := by
  obtain ⟨h1, ⟨x, hx, h2⟩, h3⟩ := h.part p hp
  have := (headC_least (canon_of_right h1) h2).1
  exact List.length_pos_of_mem (mem_cellsAll.2 this)
/-- a cell of a part is not in what came ahead -/
theorem of_fresh (h : PartsTo g r (cellsAll r) m ps) {i : Nat} (hi : i < ps.length) {t : Nat} (ht : t < (cellsAll ps[i]).length) :
    (cellsAll ps[i])[t] ∉ (ofAll ps i ++ ((cellsAll ps[i]).take t).map fun c => (c, (i : Int) + 1)).map Prod.fst := by
  intro hm
  rw [List.map_append, List.mem_append] at hm
  have hx : hasB ps[i] (cellsAll ps[i])[t] = true := mem_cellsAll.1 (List.getElem_mem ht)
  rcases hm with hm | hm
  · obtain ⟨⟨c, k⟩, h1, h2⟩ := List.mem_map.1 hm
    obtain ⟨j, hj, _, h3⟩ := ofAll_mem.1 h1
    simp only at h2
    rw [getD_get (by omega), h2] at h3
    exact (parts_apart h hi (by omega) (by omega) hx).1 h3
  · simp only [List.map_map, List.mem_map, Function.comp_apply, exists_eq_right] at hm
    have hnd := cellsAll_nodup (canon_of_right (h.part _ (List.getElem_mem hi)).1)
    obtain ⟨q, hq, he⟩ := List.getElem_of_mem hm
    simp only [List.length_take] at hq
    rw [List.getElem_take] at he
    exact List.pairwise_iff_getElem.1 hnd q t (by omega) ht (by omega) he
theorem ofAll_nodup (h : PartsTo g r (cellsAll r) m ps) : ∀ i, i ≤ ps.length → ((ofAll ps i).map Prod.fst).Nodup := by
  intro i
  induction i with
  | zero => intro _; simp [ofAll]
  | succ i ih =>
    intro hi
    rw [ofAll, List.map_append, List.nodup_append]
    have hi' : i < ps.length := by omega
    rw [getD_get hi']
    refine ⟨ih (by omega), ?_, ?_⟩
    · unfold ofPart
      rw [List.map_map]
      have : (Prod.fst ∘ fun c : Cell => (c, (i : Int) + 1)) = id := rfl
      rw [this, List.map_id]
      exact cellsAll_nodup (canon_of_right (h.part _ (List.getElem_mem hi')).1)
    · intro a ha b hb e
      subst e
      obtain ⟨⟨c, k⟩, h1, h2⟩ := List.mem_map.1 ha
      obtain ⟨j, hj, _, h3⟩ := ofAll_mem.1 h1
      simp only at h2
      subst h2
      unfold ofPart at hb
      simp only [List.map_map, List.mem_map, Function.comp_apply, exists_eq_right] at hb
      rw [getD_get (by omega)] at h3
      exact (parts_apart h (by omega) hi' (by omega) h3).1 (mem_cellsAll.1 hb)
/-- all cells, once -/
theorem of_count (hr : Canon g.W g.H r) (h : PartsTo g r (cellsAll r) m ps) : ((ofAll ps ps.length).length : Int) = countR r := by
  rw [countR_cells hr, show (ofAll ps ps.length).length = ((ofAll ps ps.length).map Prod.fst).length by simp]
  have : ((ofAll ps ps.length).map Prod.fst).Perm (cellsAll r) := (List.perm_ext_iff_of_nodup (ofAll_nodup h _ (Nat.le_refl _)) (cellsAll_nodup hr)).2 fun c => by
    rw [List.mem_map]
    constructor
    · rintro ⟨⟨c', k⟩, h1, rfl⟩
      obtain ⟨j, hj, _, h3⟩ := ofAll_mem.1 h1
      rw [getD_get hj] at h3
      exact mem_cellsAll.2 ((h.part _ (List.getElem_mem hj)).2.2 _ h3).1
    · intro hc
      rcases h.all c (mem_cellsAll.1 hc) with h1 | ⟨p, hp, h1⟩
      · exact absurd h1 (h.gone c hc)
      · obtain ⟨j, hj, rfl⟩ := List.getElem_of_mem hp
        exact ⟨(c, (j : Int) + 1), ofAll_mem.2 ⟨j, hj, rfl, by rw [getD_get hj]; exact h1⟩, rfl⟩
  rw [this.length_eq]
/-- neighbours are of the same part -/
theorem of_near (h : PartsTo g r (cellsAll r) m ps) {c : Cell} {k : Int} (hc : (c, k) ∈ ofAll ps ps.length) {d : Cell} (hd : d ∈ sidesL c) : (mget (ofAll ps ps.length) d).getD 0 = 0 ∨ (mget (ofAll ps ps.length) d).getD 0 = k := by
  cases hm : mget (ofAll ps ps.length) d with
  | none => exact .inl rfl
  | some k' =>
    right
    obtain ⟨i, hi, rfl, h3⟩ := ofAll_mem.1 hc
    obtain ⟨j, hj, rfl, h4⟩ := ofAll_mem.1 (mget_mem hm)
    rw [getD_get hi] at h3
    rw [getD_get hj] at h4
    by_cases e : i = j
    · subst e; rfl
    · exact absurd h4 ((parts_apart h hi hj e h3).2 d hd)
theorem of_in (h : PartsTo g r (cellsAll r) m ps) {c : Cell} {k : Int} (hc : (c, k) ∈ ofAll ps ps.length) : hasB r c = true := by
  obtain ⟨i, hi, rfl, h3⟩ := ofAll_mem.1 hc
  rw [getD_get hi] at h3
  exact ((h.part _ (List.getElem_mem hi)).2.2 _ h3).1
end
end Go.J

namespace Go.J
open Go.RowKit Go.Proofs
set_option maxRecDepth 8000
set_option linter.unusedSimpArgs false
set_option linter.unusedVariables false
def sidesR (c : Cell) : List Cell := [⟨c.X, c.Y - 1⟩, ⟨c.X - 1, c.Y⟩, ⟨c.X + 1, c.Y⟩, ⟨c.X, c.Y + 1⟩]
theorem sidesR_mem {c d : Cell} (h : d ∈ sidesR c) : d ∈ sidesL c := by
  unfold sidesR at h
  unfold sidesL
  simp only [List.mem_cons, List.not_mem_nil, or_false] at h ⊢
  rcases h with h | h | h | h <;> simp [h]
theorem sidesRef_c (c : Cell) (w : World) (hc : tameC c) : Calls Try.prog 93 #[c.ev] w (fun e w' => ∃ v, e = .returned v ∧ Own w w' [cellRow v (sidesR c)]) := by
  unfold tameC at hc
  refine calls_J (args := [c.ev]) Try.func93 rfl Try.ntmps93 rfl ?_
  have H := Own.start w
  ((repeat refine JC.seq ?_); refine JC.region ?_)
  refine JL.box H rfl rfl rfl ?_
  intro b1 w1 H
  refine JL.pure rfl rfl ?_
  refine JL.nil ?_
  ((repeat refine Ex.normal_block ?_); refine Ex.next ?_)
  ((repeat refine JC.seq ?_); refine JC.region ?_)
  refine JL.fieldAddr rfl Try.underlying62 rfl sh3 rfl ?_
  refine JL.loadB 0 H rfl sh3 rfl rfl rfl ?_
  refine JL.fieldAddr rfl Try.underlying62 rfl sh3 rfl ?_
  refine JL.loadB 0 H rfl sh3 rfl rfl rfl ?_
  refine JL.arith rfl (by unfold In64; omega) rfl ?_
  refine JL.build s62 rfl rfl ?_
  refine JL.fieldAddr rfl Try.underlying62 rfl sh3 rfl ?_
  refine JL.loadB 0 H rfl sh3 rfl rfl rfl ?_
  refine JL.arith rfl (by unfold In64; omega) rfl ?_
  refine JL.fieldAddr rfl Try.underlying62 rfl sh3 rfl ?_
  refine JL.loadB 0 H rfl sh3 rfl rfl rfl ?_
  refine JL.build s62 rfl rfl ?_
  refine JL.fieldAddr rfl Try.underlying62 rfl sh3 rfl ?_
  refine JL.loadB 0 H rfl sh3 rfl rfl rfl ?_
  refine JL.arith rfl (by unfold In64; omega) rfl ?_
  refine JL.fieldAddr rfl Try.underlying62 rfl sh3 rfl ?_
  refine JL.loadB 0 H rfl sh3 rfl rfl rfl ?_
  refine JL.build s62 rfl rfl ?_
  refine JL.fieldAddr rfl Try.underlying62 rfl sh3 rfl ?_
  refine JL.loadB 0 H rfl sh3 rfl rfl rfl ?_
  refine JL.fieldAddr rfl Try.underlying62 rfl sh3 rfl ?_
  refine JL.loadB 0 H rfl sh3 rfl rfl rfl ?_
  refine JL.arith rfl (by unfold In64; omega) rfl ?_
  refine JL.build s62 rfl rfl ?_
  refine JL.buildSlice H Try.underlying68 sh62 z62 rfl rfl rfl rfl rfl ?_
  intro b27 w2 H
  refine JL.pure rfl rfl ?_
  refine JL.nil ?_
  ((repeat refine Ex.normal_block ?_); refine Ex.next ?_)
  ((repeat refine JC.seq ?_); refine JC.ret ?_)
  (repeat (first | refine Ex.ret_then ?_ | refine Ex.ret_block ?_))
  refine Ex.ret1 rfl (.tmp rfl) ⟨_, rfl, ?_⟩
  exact (H.drop 1).blkRow (j := 0) (enc := Cell.cs) rfl (sidesR c) rfl (fun _ => rfl) (by simp [sidesR])
theorem Own.bagSl {w0 w : World} {L : List HP} (H : Own w0 w L) {j : Nat} {vs : List Value} {ps : List (List Run)} (hj : L[j]? = some (bag (rowsOf runRow vs ps))) {i : Nat} {v : Value} {p : List Run} (hv : vs[i]? = some v) (hp : ps[i]? = some p) (hn : p.length ≤ 9223372036854775807) : SlR w v p := by
  have H1 := H.unpackAt hj
  have h2 := rowsOf_get (R := runRow) hv hp
  have h3 : i < (rowsOf runRow vs ps).length := (List.getElem?_eq_some_iff.1 h2).1
  exact runSl H1 (j := i) (by rw [List.getElem?_append_left h3]; exact h2) hn
theorem zero3 : ∀ w, (zeroValue 3).run Try.prog w = .ok (Value.int .i64 0) w := fun w => by
  obtain ⟨z, h1, h2⟩ := tyZero_run (P := Try.prog) (t := 3) (l := [.int .i64 0]) (by kernel_rfl) w
  have : z = .int .i64 0 := by
    cases z <;> simp_all [Value.cells]
  rw [h1, this]
def setI (β : Nat) (m : List (Cell × Int)) : HP := tmap Cell.ev (Value.int .i64) β m
theorem parts2_c (g : Grid) (lv rv : Value) (r : List Run) (w : World) (hl : SlR w lv g.land) (hr : SlR w rv r) (hs : g.ok = true → g.W * g.H ≤ 4096) :
    Calls Try.prog 92 #[g.ev lv, rv] w (fun e w' => ∃ ov vs ps m er, e = .returned (.tuple #[ov, .int .i64 er]) ∧ vs.length = ps.length ∧ (er = 0 ∨ er = 2) ∧ (er = 0 → checkedB g [r] = true ∧ PartsTo g r (cellsAll r) m ps) ∧ (er ≠ 0 → vs = []) ∧
      Own w w' [trow 50 1 (fun v => [v]) ov vs, bag (rowsOf runRow vs ps)]) := by
  refine (parts_c g lv rv r w hl hr hs).mono ?_
  rintro e w' (⟨h1, rfl, H⟩ | ⟨h1, ov, vs, ps, m, rfl, h2, h3, H⟩)
  · exact ⟨_, [], [], [], 2, rfl, rfl, .inr rfl, by simp, fun _ => rfl, (show Own _ _ ([] ++ _) from H).pack.nilRow 50 1⟩
  · exact ⟨_, vs, ps, m, 0, rfl, h2, .inl rfl, fun _ => ⟨h1, h3⟩, by simp, H⟩
theorem ofAll_le {ps : List (List Run)} : ∀ {i n : Nat}, i ≤ n → (ofAll ps i).length ≤ (ofAll ps n).length := by
  intro i n h
  induction n with
  | zero => have : i = 0 := by omega
            subst this; exact Nat.le_refl _
  | succ n ih =>
    by_cases e : i = n + 1
    · subst e; exact Nat.le_refl _
    · have := ih (by omega)
      rw [ofAll, List.length_append]
      omega
theorem gridConnected_w (g : Grid) (lv rv : Value) (r : List Run) (w : World) (hl : SlR w lv g.land) (hr : SlR w rv r) : Pur Try.prog 18 #[g.ev lv, rv] w (.bool true) := by
  obtain ⟨la, lc, rfl⟩ := hl.len
  obtain ⟨ra, rc, rfl⟩ := hr.len
  refine pur_J (args := [g.ev (.slice la g.land.length lc), .slice ra r.length rc]) Try.func18 rfl Try.ntmps18 rfl ?_
  have H := Own.start w
  ((repeat refine JC.seq ?_); refine JC.region ?_)
  refine JL.box H rfl rfl rfl ?_
  intro b2 w1 H
  refine JL.pure rfl rfl ?_
  refine JL.nil ?_
  ((repeat refine Ex.normal_block ?_); refine Ex.next ?_)
  ((repeat refine JC.seq ?_); refine JC.region ?_)
  refine JL.callP H fb40 rfl rfl (alive_c _) ?_
  intro w2 H _
  refine JL.pure rfl rfl ?_
  refine JL.nil ?_
  ((repeat refine Ex.normal_block ?_); refine Ex.next ?_)
  ((repeat refine JC.seq ?_); refine JC.region ?_)
  refine JL.loadB 0 H rfl sh52 rfl rfl rfl ?_
  refine JL.pure rfl rfl ?_
  refine JL.buildSlice H Try.underlying134 sh50 z50 rfl rfl rfl rfl rfl ?_
  intro b26 w3 H
  refine JL.callP H fb41 rfl rfl (great_c g _ _ 1024 [((.slice ra r.length rc), r)] _ (hl.grow H.below) (H.blkSl1 (j := 0) (ev := Prod.fst) rfl [((.slice ra r.length rc), r)] rfl (by simp)) (by
    have hB := H.below
    intro p hp
    simp only [List.mem_cons, List.not_mem_nil, or_false] at hp
    subst hp
    exact hr.grow hB)) ?_
  intro w4 H _
  refine JL.pure rfl rfl ?_
  refine JL.cases 28 rfl ?_ ?_
  · intro h28
    (try simp only [Bool.not_eq_true', Bool.not_eq_false', decide_eq_true_eq, decide_eq_false_iff_not] at h28)
    
    refine JL.pass rfl rfl rfl rfl ?_
    refine JL.pass rfl rfl rfl rfl ?_
    refine JL.pure rfl rfl ?_
    refine JL.nil ?_
    ((repeat refine Ex.normal_block ?_); refine Ex.next ?_)
    ((repeat refine JC.seq ?_); refine JC.cond rfl (fun _ => ?_) (fun h => by cases h))
    ((repeat refine JC.seq ?_); refine JC.region ?_)
    refine JL.pure rfl rfl ?_
    refine JL.pure rfl rfl ?_
    refine JL.nil ?_
    ((repeat refine Ex.normal_block ?_); refine Ex.next ?_)
    ((repeat refine JC.seq ?_); refine JC.ret ?_)
    (repeat (first | refine Ex.ret_then ?_ | refine Ex.ret_block ?_))
    refine Ex.ret1 rfl (.tmp rfl) ⟨?_, H.below⟩
    first | rfl | simp_all
  · intro h28
    (try simp only [Bool.not_eq_true', Bool.not_eq_false', decide_eq_true_eq, decide_eq_false_iff_not] at h28)
    have hsm := great_small (g := g) (n := 1024) (l := [r]) (by simpa using h28)
    have hs : g.ok = true → g.W * g.H ≤ 4096 := fun h => by have := hsm.1 h; omega
    refine JL.want rfl rfl ?_
    refine JL.pure rfl rfl ?_
    refine JL.want rfl rfl ?_
    refine JL.pure rfl rfl ?_
    refine JL.pure rfl rfl ?_
    refine JL.nil ?_
    ((repeat refine Ex.normal_block ?_); refine Ex.next ?_)
    ((repeat refine JC.seq ?_); refine JC.cond rfl (fun h => by cases h) (fun _ => ?_))
    ((repeat refine JC.seq ?_); refine JC.skip ?_)
    ((repeat refine Ex.normal_block ?_); refine Ex.next ?_)
    ((repeat refine JC.seq ?_); refine JC.region ?_)
    refine JL.loadB 1 H rfl sh52 rfl rfl rfl ?_
    refine JL.pure rfl rfl ?_
    refine JL.call fb92 rfl rfl (parts2_c g _ _ r _ (hl.grow H.below) (hr.grow H.below) hs) ?_
    rintro _ w5 ⟨ov, vs, ps, m, er, rfl, hvl, her, hP0, hnil, K⟩
    obtain ⟨oa, oc, rfl⟩ := K.row_slice (j := 0) rfl
    have H := H.join K
    refine ⟨_, rfl, ?_⟩
    refine JL.pure rfl rfl ?_
    refine JL.pure rfl rfl ?_
    refine JL.pure rfl rfl ?_
    refine JL.pure rfl rfl ?_
    refine JL.pure rfl rfl ?_
    refine JL.nil ?_
    ((repeat refine Ex.normal_block ?_); refine Ex.next ?_)
    ((repeat refine JC.seq ?_); refine JC.region ?_)
    refine JL.pure rfl rfl ?_
    refine JL.pure rfl rfl ?_
    refine JL.nil ?_
    ((repeat refine Ex.normal_block ?_); refine Ex.next ?_)
    ((repeat refine JC.seq ?_); refine JC.cond rfl ?_ ?_)
    · intro h40
      (try simp only [Bool.not_eq_true', Bool.not_eq_false', decide_eq_true_eq, decide_eq_false_iff_not] at h40)
      have hv0 := hnil h40
      ((repeat refine JC.seq ?_); refine JC.region ?_)
      refine JL.pure rfl rfl ?_
      refine JL.pure rfl rfl ?_
      refine JL.want rfl rfl ?_
      refine JL.pure rfl rfl ?_
      refine JL.want rfl rfl ?_
      refine JL.pure rfl rfl ?_
      refine JL.re 44 rfl (v' := .bool true) (by simp; omega) ?_
      refine JL.pure rfl rfl ?_
      refine JL.pure rfl rfl ?_
      refine JL.want rfl rfl ?_
      refine JL.pure rfl rfl ?_
      refine JL.want rfl rfl ?_
      refine JL.len rfl Try.underlying134 rfl ?_
      refine JL.want rfl rfl ?_
      refine JL.pure rfl rfl ?_
      refine JL.re 49 rfl (v' := .bool true) (by rw [hv0]; rfl) ?_
      refine JL.pure rfl rfl ?_
      refine JL.pure rfl rfl ?_
      refine JL.nil ?_
      ((repeat refine Ex.normal_block ?_); refine Ex.next ?_)
      ((repeat refine JC.seq ?_); refine JC.ret ?_)
      (repeat (first | refine Ex.ret_then ?_ | refine Ex.ret_block ?_))
      refine Ex.ret1 rfl (.tmp rfl) ⟨?_, H.below⟩
      first | rfl | simp_all
    · intro h40
      (try simp only [Bool.not_eq_true', Bool.not_eq_false', decide_eq_true_eq, decide_eq_false_iff_not] at h40)
      obtain ⟨hck, hP⟩ := hP0 (by omega)
      obtain ⟨hgok, hall⟩ := checkedB_b hck
      obtain ⟨hgW, hgH, hgS, _⟩ := Grid.ok_b hgok
      have hcan := canon_of_right (hall r (by simp))
      have hcnt := of_count hcan hP
      have hcs := cells_small hgok hcan
      have hcr := countR_cells hcan
      have htr := tame_right hgW.2 hcan
      have hnr : r.length ≤ 300 := hsm.2.2 r (by simp)
      have hpl : ps.length ≤ 65536 := by have := hP.len; omega
      ((repeat refine JC.seq ?_); refine JC.skip ?_)
      ((repeat refine Ex.normal_block ?_); refine Ex.next ?_)
      ((repeat refine JC.seq ?_); refine JC.region ?_)
      refine JL.makeMap Cell.ev (Value.int .i64) H rfl ?_
      intro β w1 H
      refine JL.pure rfl rfl ?_
      refine JL.nil ?_
      ((repeat refine Ex.normal_block ?_); refine Ex.next ?_)
      ((repeat refine JC.seq ?_); refine JC.region ?_)
      refine JL.pure rfl rfl ?_
      refine JL.nil ?_
      ((repeat refine Ex.normal_block ?_); refine Ex.next ?_)
      ((repeat refine JC.seq ?_); refine JC.region ?_)
      refine JL.pure rfl rfl ?_
      refine JL.len rfl Try.underlying134 rfl ?_
      refine JL.pure rfl rfl ?_
      refine JL.nil ?_
      ((repeat refine Ex.normal_block ?_); refine Ex.next ?_)
      ((repeat refine JC.seq ?_); refine JC.block ?_)
      ((repeat refine JC.seq ?_); refine JC.loop (ι := Nat) (fun i => [(1, .slice ra r.length rc), (2, .pointer (some ⟨b2, 0, none⟩)), (5, .bool true), (6, .slice oa vs.length oc), (8, .map (some β)), (9, .int .i64 (ofAll ps i).length), (52, .slice oa vs.length oc), (53, .int .i64 vs.length), (54, .int .i64 i)])
        (fun i wr => i ≤ vs.length ∧ Own w wr [setI β (ofAll ps i), trow 50 1 (fun v => [v]) (.slice oa vs.length oc) vs, bag (rowsOf runRow vs ps), blk b26 (.cells ⟨[.slice ra r.length rc]⟩ 50 (0, 0)), blk b2 (.cells ⟨[.int .i64 g.W, .int .i64 g.H, .int .i64 g.S, .slice la g.land.length lc]⟩ 52 (0, 0))]) (fun i => vs.length - i) 0 ?_ ?_ ?_)
      · exact ⟨rfl, rfl, rfl, rfl, rfl, rfl, rfl, rfl, rfl, trivial⟩
      · exact ⟨Nat.zero_le _, H⟩
      · rintro i wr ⟨hi, H⟩
        ((repeat refine JC.seq ?_); refine JC.region ?_)
        refine JL.pure rfl rfl ?_
        refine JL.nil ?_
        ((repeat refine Ex.normal_block ?_); refine Ex.next ?_)
        ((repeat refine JC.seq ?_); refine JC.cond rfl ?_ ?_)
        · intro h55
          (try simp only [Bool.not_eq_true', Bool.not_eq_false', decide_eq_true_eq, decide_eq_false_iff_not] at h55)
          have h55 : i < vs.length := by omega
          have hip : i < ps.length := by omega
          have hv : vs[i]? = some vs[i] := by simp [h55]
          have hp : ps[i]? = some ps[i] := by simp [hip]
          have hpr := (hP.part _ (List.getElem_mem hip)).1
          have hpn := rightB_len hpr
          have hpp := part_pos hP (List.getElem_mem hip)
          have hsum : (ofAll ps (i + 1)).length = (ofAll ps i).length + (cellsAll ps[i]).length := by rw [ofAll, List.length_append, getD_get hip]; unfold ofPart; rw [List.length_map]
          have hle := ofAll_le (ps := ps) (show i + 1 ≤ ps.length by omega)
          have hcR : cellsR g ps[i] = (cellsAll ps[i], 0) := by unfold cellsR; rw [if_pos (checked_one hgok hpr)]
          obtain ⟨g2, c2, hg2, _, _, _⟩ := H.rowAt (j := 1) (e := 50) (sz := 1) (enc := fun v => [v]) (fun _ => rfl) rfl hv
          simp only [Value.slice.injEq] at hg2
          obtain ⟨rfl, _, rfl⟩ := hg2
          ((repeat refine JC.seq ?_); refine JC.skip ?_)
          ((repeat refine Ex.normal_block ?_); refine Ex.next ?_)
          ((repeat refine JC.seq ?_); refine JC.block ?_)
          ((repeat refine JC.seq ?_); refine JC.region ?_)
          refine JL.pure rfl rfl ?_
          refine JL.indexS i rfl rfl Try.underlying134 sh50 rfl h55 rfl ?_
          refine JL.load rfl sh50 (H.rowLd1 (j := 1) (k := 1) (ev := fun v => v) rfl hv) rfl ?_
          refine JL.pure rfl rfl ?_
          refine JL.pure rfl rfl ?_
          refine JL.nil ?_
          ((repeat refine Ex.normal_block ?_); refine Ex.next ?_)
          ((repeat refine JC.seq ?_); refine JC.region ?_)
          refine JL.loadB 4 H rfl sh52 rfl rfl rfl ?_
          refine JL.pure rfl rfl ?_
          refine JL.call fb49 rfl rfl (cells49_c g _ vs[i] ps[i] _ (hl.grow H.below) (H.bagSl (j := 2) rfl hv hp (by omega))) ?_
          rw [hcR]
          rintro _ w6 ⟨cv, rfl, K⟩
          replace K : Own _ _ [cellRow cv (cellsAll ps[i])] := K
          obtain ⟨ca, cc, rfl⟩ := K.row_slice (j := 0) rfl
          have H := H.join K
          refine ⟨_, rfl, ?_⟩
          refine JL.pure rfl rfl ?_
          refine JL.pure rfl rfl ?_
          refine JL.pure rfl rfl ?_
          refine JL.pure rfl rfl ?_
          refine JL.pure rfl rfl ?_
          refine JL.nil ?_
          ((repeat refine Ex.normal_block ?_); refine Ex.next ?_)
          ((repeat refine JC.seq ?_); refine JC.region ?_)
          refine JL.pure rfl rfl ?_
          refine JL.pure rfl rfl ?_
          refine JL.re 66 rfl (v' := .bool false) (rfl) ?_
          refine JL.pure rfl rfl ?_
          refine JL.want rfl rfl ?_
          refine JL.pure rfl rfl ?_
          refine JL.want rfl rfl ?_
          refine JL.len rfl Try.underlying68 rfl ?_
          refine JL.want rfl rfl ?_
          refine JL.pure rfl rfl ?_
          refine JL.re 70 rfl (v' := .bool false) (congrArg Value.bool (decide_eq_false (by omega))) ?_
          refine JL.pure rfl rfl ?_
          refine JL.nil ?_
          ((repeat refine Ex.normal_block ?_); refine Ex.next ?_)
          ((repeat refine JC.seq ?_); refine JC.cond rfl (fun h => by cases h) (fun _ => ?_))
          ((repeat refine JC.seq ?_); refine JC.skip ?_)
          ((repeat refine Ex.normal_block ?_); refine Ex.next ?_)
          ((repeat refine JC.seq ?_); refine JC.region ?_)
          refine JL.pure rfl rfl ?_
          refine JL.pure rfl rfl ?_
          refine JL.len rfl Try.underlying68 rfl ?_
          refine JL.arith rfl (by unfold In64; omega) rfl ?_
          refine JL.pure rfl rfl ?_
          refine JL.nil ?_
          ((repeat refine Ex.normal_block ?_); refine Ex.next ?_)
          ((repeat refine JC.seq ?_); refine JC.region ?_)
          refine JL.pure rfl rfl ?_
          refine JL.len rfl Try.underlying68 rfl ?_
          refine JL.pure rfl rfl ?_
          refine JL.nil ?_
          ((repeat refine Ex.normal_block ?_); refine Ex.next ?_)
          ((repeat refine JC.seq ?_); refine JC.block ?_)
          ((repeat refine JC.seq ?_); refine JC.loop (ι := Nat) (fun j => [(1, .slice ra r.length rc), (2, .pointer (some ⟨b2, 0, none⟩)), (5, .bool true), (6, .slice (some ⟨g2, 0, none⟩) vs.length oc), (8, .map (some β)), (9, .int .i64 ((ofAll ps i).length + (cellsAll ps[i]).length)), (52, .slice (some ⟨g2, 0, none⟩) vs.length oc), (53, .int .i64 vs.length), (54, .int .i64 i), (10, .int .i64 i), (76, .slice ca (cellsAll ps[i]).length cc), (77, .int .i64 (cellsAll ps[i]).length), (78, .int .i64 j)])
            (fun j wr => j ≤ (cellsAll ps[i]).length ∧ Own w wr (cellRow (.slice ca (cellsAll ps[i]).length cc) (cellsAll ps[i]) :: [setI β (ofAll ps i ++ ((cellsAll ps[i]).take j).map fun c => (c, (i : Int) + 1)), trow 50 1 (fun v => [v]) (.slice (some ⟨g2, 0, none⟩) vs.length oc) vs, bag (rowsOf runRow vs ps), blk b26 (.cells ⟨[.slice ra r.length rc]⟩ 50 (0, 0)), blk b2 (.cells ⟨[.int .i64 g.W, .int .i64 g.H, .int .i64 g.S, .slice la g.land.length lc]⟩ 52 (0, 0))])) (fun j => (cellsAll ps[i]).length - j) 0 ?_ ?_ ?_)
          · exact ⟨rfl, rfl, rfl, rfl, rfl, rfl, rfl, rfl, rfl, rfl, rfl, rfl, rfl, trivial⟩
          · exact ⟨Nat.zero_le _, by simpa using H⟩
          · rintro j wr ⟨hj, H⟩
            ((repeat refine JC.seq ?_); refine JC.region ?_)
            refine JL.pure rfl rfl ?_
            refine JL.nil ?_
            ((repeat refine Ex.normal_block ?_); refine Ex.next ?_)
            ((repeat refine JC.seq ?_); refine JC.cond rfl ?_ ?_)
            · intro h79
              (try simp only [Bool.not_eq_true', Bool.not_eq_false', decide_eq_true_eq, decide_eq_false_iff_not] at h79)
              have h79 : j < (cellsAll ps[i]).length := by omega
              have hx : (cellsAll ps[i])[j]? = some (cellsAll ps[i])[j] := by simp [h79]
              obtain ⟨g3, c3, hg3, _, _, _⟩ := H.rowAt (j := 0) (e := 62) (sz := 2) (enc := Cell.cs) (fun _ => rfl) rfl hx
              simp only [Value.slice.injEq] at hg3
              obtain ⟨rfl, _, rfl⟩ := hg3
              ((repeat refine JC.seq ?_); refine JC.skip ?_)
              ((repeat refine Ex.normal_block ?_); refine Ex.next ?_)
              ((repeat refine JC.seq ?_); refine JC.block ?_)
              ((repeat refine JC.seq ?_); refine JC.region ?_)
              refine JL.indexS j rfl rfl Try.underlying68 sh62 rfl h79 rfl ?_
              refine JL.load rfl sh62 (H.rowLd (j := 0) (e := 62) (sz := 2) (enc := Cell.cs) (fun _ => rfl) rfl hx) rfl ?_
              refine JL.alloc H z62 rfl ?_
              intro b15 w7 H
              refine JL.storeB 0 H rfl rfl sh62 rfl rfl rfl rfl rfl ?_
              intro w8 H
              refine JL.nil ?_
              ((repeat refine Ex.normal_block ?_); refine Ex.next ?_)
              ((repeat refine JC.seq ?_); refine JC.region ?_)
              refine JL.pure rfl rfl ?_
              refine JL.loadB 0 H rfl sh62 rfl rfl rfl ?_
              refine JL.pure rfl rfl ?_
              refine JL.arith rfl (by unfold In64; omega) rfl ?_
              refine JL.mapUpdate 2 H (cellsAll ps[i])[j] ((i : Int) + 1) rfl rfl rfl Try.underlying137 keyCell rfl rfl ?_
              intro w9 H
              rw [mset_new _ _ (of_fresh hP hip h79)] at H
              refine JL.nil ?_
              ((repeat refine Ex.normal_block ?_); refine Ex.next ?_)
              ((repeat refine JC.seq ?_); refine JC.region ?_)
              refine JL.arith rfl (by unfold In64; omega) rfl ?_
              refine JL.pure rfl rfl ?_
              refine JL.nil ?_
              (repeat refine Ex.normal_block ?_)
              refine Ex.again (j + 1) ⟨rfl, rfl, rfl, rfl, rfl, rfl, rfl, rfl, rfl, rfl, rfl, rfl, rfl, trivial⟩ ⟨h79, ?_⟩ (by omega)
              rw [List.take_succ_eq_append_getElem h79, List.map_append, ← List.append_assoc]
              exact H.drop 0
            · intro h79
              (try simp only [Bool.not_eq_true', Bool.not_eq_false', decide_eq_true_eq, decide_eq_false_iff_not] at h79)
              
              ((repeat refine JC.seq ?_); refine JC.exit ?_)
              (repeat (first | refine Ex.exit_then ?_ | refine Ex.exit_miss (by decide) ?_))
              refine Ex.exit_hit ?_
              ((repeat refine Ex.normal_block ?_); refine Ex.next ?_)
              ((repeat refine JC.seq ?_); refine JC.region ?_)
              refine JL.arith rfl (by unfold In64; omega) rfl ?_
              refine JL.pure rfl rfl ?_
              refine JL.nil ?_
              (repeat refine Ex.normal_block ?_)
              have hjl : j = (cellsAll ps[i]).length := by omega
              subst hjl
              rw [List.take_length] at H
              refine Ex.again (i + 1) ⟨rfl, rfl, rfl, rfl, rfl, ?_, rfl, rfl, rfl, trivial⟩ ⟨h55, ?_⟩ (by omega)
              · show some (Value.int .i64 _) = some (Value.int .i64 _)
                rw [hsum]
                simp
              · rw [ofAll, getD_get hip]
                exact H.drop 0
        · intro h55
          (try simp only [Bool.not_eq_true', Bool.not_eq_false', decide_eq_true_eq, decide_eq_false_iff_not] at h55)
          have hii : i = ps.length := by omega
          subst hii
          ((repeat refine JC.seq ?_); refine JC.exit ?_)
          (repeat (first | refine Ex.exit_then ?_ | refine Ex.exit_miss (by decide) ?_))
          refine Ex.exit_hit ?_
          ((repeat refine Ex.normal_block ?_); refine Ex.next ?_)
          ((repeat refine JC.seq ?_); refine JC.region ?_)
          refine JL.pure rfl rfl ?_
          obtain ⟨es, clock, hM, H⟩ := H.openM (i := 0) rfl
          refine JL.rangeM 0 H rfl rfl Try.underlying137 rfl ?_
          intro q w9 H
          refine JL.nil ?_
          ((repeat refine Ex.normal_block ?_); refine Ex.next ?_)
          ((repeat refine JC.seq ?_); refine JC.block ?_)
          ((repeat refine JC.seq ?_); refine JC.loop (ι := List (Cell × Int) × Array Nat × Nat) (fun x => [(1, .slice ra r.length rc), (2, .pointer (some ⟨b2, 0, none⟩)), (5, .bool true), (6, .slice oa vs.length oc), (8, .map (some β)), (9, .int .i64 (ofAll ps ps.length).length), (89, .pointer (some ⟨q, 0, none⟩))])
            (fun x wr => ItIs Cell.ev (Value.int .i64) es x.2.1 x.1 ∧ clock ≤ x.2.2 ∧ (∀ p ∈ x.1, p ∈ ofAll ps ps.length) ∧ Own w wr [blk q (.mapIter (some β) clock x.2.1 x.2.2), blk β (.map es clock), trow 50 1 (fun v => [v]) (.slice oa vs.length oc) vs, bag (rowsOf runRow vs ps), blk b26 (.cells ⟨[.slice ra r.length rc]⟩ 50 (0, 0)), blk b2 (.cells ⟨[.int .i64 g.W, .int .i64 g.H, .int .i64 g.S, .slice la g.land.length lc]⟩ 52 (0, 0))]) (fun x => x.1.length) (ofAll ps ps.length, #[], clock) ?_ ?_ ?_)
          · exact ⟨rfl, rfl, rfl, rfl, rfl, rfl, rfl, trivial⟩
          · exact ⟨ItIs.start hM, Nat.le_refl _, fun p hp => hp, H⟩
          · rintro ⟨l, seen, c0⟩ wr ⟨hit, hc0, hsub, H⟩
            simp only at hit hc0 hsub H
            ((repeat refine JC.seq ?_); refine JC.region ?_)
            refine JL.nextM 0 1 H rfl rfl rfl hM.old hc0 rfl ?_ ?_
            · intro h0
              refine JL.pure rfl rfl ?_
              refine JL.nil ?_
              ((repeat refine Ex.normal_block ?_); refine Ex.next ?_)
              ((repeat refine JC.seq ?_); refine JC.cond rfl (fun h => by cases h) (fun _ => ?_))
              ((repeat refine JC.seq ?_); refine JC.exit ?_)
              (repeat (first | refine Ex.exit_then ?_ | refine Ex.exit_miss (by decide) ?_))
              refine Ex.exit_hit ?_
              ((repeat refine Ex.normal_block ?_); refine Ex.next ?_)
              ((repeat refine JC.seq ?_); refine JC.region ?_)
              refine JL.pure rfl rfl ?_
              refine JL.nil ?_
              ((repeat refine Ex.normal_block ?_); refine Ex.next ?_)
              ((repeat refine JC.seq ?_); refine JC.block ?_)
              ((repeat refine JC.seq ?_); refine JC.loop (ι := Nat) (fun i => [(1, .slice ra r.length rc), (5, .bool true), (6, .slice oa vs.length oc), (8, .map (some β)), (9, .int .i64 (ofAll ps ps.length).length), (20, .int .i64 i)])
                (fun i wr => 1 ≤ i ∧ Own w wr [setI β (ofAll ps ps.length), trow 50 1 (fun v => [v]) (.slice oa vs.length oc) vs, bag (rowsOf runRow vs ps), blk b26 (.cells ⟨[.slice ra r.length rc]⟩ 50 (0, 0)), blk b2 (.cells ⟨[.int .i64 g.W, .int .i64 g.H, .int .i64 g.S, .slice la g.land.length lc]⟩ 52 (0, 0))]) (fun i => vs.length - i) 1 ?_ ?_ ?_)
              · exact ⟨rfl, rfl, rfl, rfl, rfl, rfl, trivial⟩
              · exact ⟨Nat.le_refl _, (H.closeM (i := 1) rfl hM).drop 0⟩
              · rintro i wr ⟨hi, H⟩
                ((repeat refine JC.seq ?_); refine JC.region ?_)
                refine JL.pure rfl rfl ?_
                refine JL.pure rfl rfl ?_
                refine JL.len rfl Try.underlying134 rfl ?_
                refine JL.pure rfl rfl ?_
                refine JL.nil ?_
                ((repeat refine Ex.normal_block ?_); refine Ex.next ?_)
                ((repeat refine JC.seq ?_); refine JC.cond rfl ?_ ?_)
                · intro h121
                  (try simp only [Bool.not_eq_true', Bool.not_eq_false', decide_eq_true_eq, decide_eq_false_iff_not] at h121)
                  have h121 : i < vs.length := by omega
                  have hip : i < ps.length := by omega
                  have hv : vs[i]? = some vs[i] := by simp [h121]
                  have hv' : vs[i - 1]? = some (vs[i - 1]'(by omega)) := List.getElem?_eq_getElem _
                  have hp : ps[i]? = some ps[i] := by simp [hip]
                  have hp' : ps[i - 1]? = some (ps[i - 1]'(by omega)) := List.getElem?_eq_getElem _
                  obtain ⟨k1, ⟨x1, _, k2⟩, _⟩ := hP.part _ (List.getElem_mem hip)
                  obtain ⟨k1', ⟨x2, _, k2'⟩, _⟩ := hP.part _ (List.getElem_mem (show i - 1 < ps.length by omega))
                  have hord := List.pairwise_iff_getElem.1 hP.ord (i - 1) i (by omega) hip (by omega) _ _ k2' k2
                  have n1 := rightB_len k1
                  have n2 := rightB_len k1'
                  have sq1 := H.bagSl (j := 2) rfl hv hp (by omega)
                  have sq2 := H.bagSl (j := 2) rfl hv' hp' (by omega)
                  obtain ⟨p1, t1, hp1⟩ : ∃ p1 t1, ps[i] = p1 :: t1 := by
                    cases hc : ps[i] with
                    | nil => rw [hc] at k2; cases k2
                    | cons a b => exact ⟨a, b, rfl⟩
                  obtain ⟨p2, t2, hp2⟩ : ∃ p2 t2, ps[i - 1]'(by omega) = p2 :: t2 := by
                    cases hc : ps[i - 1]'(by omega) with
                    | nil => rw [hc] at k2'; cases k2'
                    | cons a b => exact ⟨a, b, rfl⟩
                  rw [hp1] at sq1 k2
                  rw [hp2] at sq2 k2'
                  simp only [headC, List.head?_cons, Option.map_some, Option.some.injEq] at k2 k2'
                  subst k2 k2'
                  unfold cellLt at hord
                  simp only at hord
                  obtain ⟨_, y1, zq1, e1, f1⟩ := id sq1
                  obtain ⟨_, y2, zq2, e2, f2⟩ := id sq2
                  obtain ⟨γ1, o1, rfl, hγ1, _⟩ := f1.resolve_left (by simp)
                  obtain ⟨γ2, o2, rfl, hγ2, _⟩ := f2.resolve_left (by simp)
                  rw [e1] at sq1
                  rw [e2] at sq2
                  obtain ⟨g2, c2, hg2, _, _, _⟩ := H.rowAt (j := 1) (e := 50) (sz := 1) (enc := fun v => [v]) (fun _ => rfl) rfl hv
                  simp only [Value.slice.injEq] at hg2
                  obtain ⟨rfl, _, rfl⟩ := hg2
                  ((repeat refine JC.seq ?_); refine JC.skip ?_)
                  ((repeat refine Ex.normal_block ?_); refine Ex.next ?_)
                  ((repeat refine JC.seq ?_); refine JC.block ?_)
                  ((repeat refine JC.seq ?_); refine JC.draw 17 H mixed (by kernel_rfl) rfl ?_)
                  refine JD.pure rfl rfl ?_
                  refine JD.pure rfl rfl ?_
                  refine JD.arith rfl (by unfold In64; omega) rfl ?_
                  refine JD.indexS (i - 1) rfl rfl Try.underlying134 sh50 (by omega) (by omega) rfl ?_
                  refine JD.load rfl sh50 (fun w hw => by have := hw.rowLd1 (j := 1) (k := 1) (ev := fun v => v) rfl hv'; rw [e2] at this; exact this) rfl ?_
                  refine JD.indexS 0 rfl rfl Try.underlying50 sh140 rfl (by simp) rfl ?_
                  refine JD.load rfl sh140 (fun w hw => by have := hw.bagSl (j := 2) rfl hv' hp' (by omega); rw [hp2, e2] at this; exact this.ld (k := 0) rfl) rfl ?_
                  refine JD.pure rfl rfl ?_
                  refine JD.pure rfl rfl ?_
                  refine JD.indexS i rfl rfl Try.underlying134 sh50 rfl h121 rfl ?_
                  refine JD.load rfl sh50 (fun w hw => by have := hw.rowLd1 (j := 1) (k := 1) (ev := fun v => v) rfl hv; rw [e1] at this; exact this) rfl ?_
                  refine JD.indexS 0 rfl rfl Try.underlying50 sh140 rfl (by simp) rfl ?_
                  refine JD.load rfl sh140 (fun w hw => by have := hw.bagSl (j := 2) rfl hv hp (by omega); rw [hp1, e1] at this; exact this.ld (k := 0) rfl) rfl ?_
                  refine JD.allocS 15 (.tmp 130) z140 rfl rfl ?_
                  refine JD.allocS 16 (.tmp 136) z140 rfl rfl ?_
                  refine JD.storeF rfl rfl rfl sh140 rfl rfl rfl ?_
                  refine JD.storeF rfl rfl rfl sh140 rfl rfl rfl ?_
                  refine JD.nil ?_
                  intro w10 v22 v21 H
                  obtain ⟨b21, rfl, H⟩ := H.ptr (j := 0) rfl
                  obtain ⟨b22, rfl, H⟩ := H.ptr (j := 1) rfl
                  show JL _ _ _ _ _ _ _
                  refine JL.nil ?_
                  ((repeat refine Ex.normal_block ?_); refine Ex.next ?_)
                  ((repeat refine JC.seq ?_); refine JC.region ?_)
                  refine JL.fieldAddr rfl Try.underlying140 rfl sh3 rfl ?_
                  refine JL.loadB 0 H rfl sh3 rfl rfl rfl ?_
                  refine JL.fieldAddr rfl Try.underlying140 rfl sh3 rfl ?_
                  refine JL.loadB 1 H rfl sh3 rfl rfl rfl ?_
                  refine JL.pure rfl rfl ?_
                  refine JL.re 141 rfl (v' := .bool false) (congrArg Value.bool (decide_eq_false (by omega))) ?_
                  refine JL.pure rfl rfl ?_
                  refine JL.want rfl rfl ?_
                  refine JL.fieldAddr rfl Try.underlying140 rfl sh3 rfl ?_
                  refine JL.want rfl rfl ?_
                  refine JL.loadB 0 H rfl sh3 rfl rfl rfl ?_
                  refine JL.want rfl rfl ?_
                  refine JL.fieldAddr rfl Try.underlying140 rfl sh3 rfl ?_
                  refine JL.want rfl rfl ?_
                  refine JL.loadB 1 H rfl sh3 rfl rfl rfl ?_
                  refine JL.want rfl rfl ?_
                  refine JL.pure rfl rfl ?_
                  refine JL.want rfl rfl ?_
                  refine JL.pure rfl rfl ?_
                  refine JL.cases 148 rfl ?_ ?_
                  · intro h148
                    (try simp only [Bool.not_eq_true', Bool.not_eq_false', decide_eq_true_eq, decide_eq_false_iff_not] at h148)
                    refine JL.want rfl rfl ?_
                    refine JL.fieldAddr rfl Try.underlying140 rfl sh3 rfl ?_
                    refine JL.want rfl rfl ?_
                    refine JL.loadB 0 H rfl sh3 rfl rfl rfl ?_
                    refine JL.want rfl rfl ?_
                    refine JL.fieldAddr rfl Try.underlying140 rfl sh3 rfl ?_
                    refine JL.want rfl rfl ?_
                    refine JL.loadB 1 H rfl sh3 rfl rfl rfl ?_
                    refine JL.want rfl rfl ?_
                    refine JL.pure rfl rfl ?_
                    refine JL.re 153 rfl (v' := .bool false) (congrArg Value.bool (decide_eq_false (by omega))) ?_
                    refine JL.want rfl rfl ?_
                    refine JL.pure rfl rfl ?_
                    refine JL.pure rfl rfl ?_
                    refine JL.nil ?_
                    ((repeat refine Ex.normal_block ?_); refine Ex.next ?_)
                    ((repeat refine JC.seq ?_); refine JC.cond rfl (fun h => by cases h) (fun _ => ?_))
                    ((repeat refine JC.seq ?_); refine JC.skip ?_)
                    ((repeat refine Ex.normal_block ?_); refine Ex.next ?_)
                    ((repeat refine JC.seq ?_); refine JC.region ?_)
                    refine JL.pure rfl rfl ?_
                    refine JL.arith rfl (by unfold In64; omega) rfl ?_
                    refine JL.pure rfl rfl ?_
                    refine JL.nil ?_
                    (repeat refine Ex.normal_block ?_)
                    exact Ex.again (i + 1) ⟨rfl, rfl, rfl, rfl, rfl, rfl, trivial⟩ ⟨by omega, (H.drop 0).drop 0⟩ (by omega)
                  · intro h148
                    (try simp only [Bool.not_eq_true', Bool.not_eq_false', decide_eq_true_eq, decide_eq_false_iff_not] at h148)
                    refine JL.pass rfl rfl rfl rfl ?_
                    refine JL.pass rfl rfl rfl rfl ?_
                    refine JL.pass rfl rfl rfl rfl ?_
                    refine JL.pass rfl rfl rfl rfl ?_
                    refine JL.pass rfl rfl rfl rfl ?_
                    refine JL.want rfl rfl ?_
                    refine JL.pure rfl rfl ?_
                    refine JL.pure rfl rfl ?_
                    refine JL.nil ?_
                    ((repeat refine Ex.normal_block ?_); refine Ex.next ?_)
                    ((repeat refine JC.seq ?_); refine JC.cond rfl (fun h => by cases h) (fun _ => ?_))
                    ((repeat refine JC.seq ?_); refine JC.skip ?_)
                    ((repeat refine Ex.normal_block ?_); refine Ex.next ?_)
                    ((repeat refine JC.seq ?_); refine JC.region ?_)
                    refine JL.pure rfl rfl ?_
                    refine JL.arith rfl (by unfold In64; omega) rfl ?_
                    refine JL.pure rfl rfl ?_
                    refine JL.nil ?_
                    (repeat refine Ex.normal_block ?_)
                    exact Ex.again (i + 1) ⟨rfl, rfl, rfl, rfl, rfl, rfl, trivial⟩ ⟨by omega, (H.drop 0).drop 0⟩ (by omega)
                · intro h121
                  (try simp only [Bool.not_eq_true', Bool.not_eq_false', decide_eq_true_eq, decide_eq_false_iff_not] at h121)
                  
                  ((repeat refine JC.seq ?_); refine JC.exit ?_)
                  (repeat (first | refine Ex.exit_then ?_ | refine Ex.exit_miss (by decide) ?_))
                  refine Ex.exit_hit ?_
                  ((repeat refine Ex.normal_block ?_); refine Ex.next ?_)
                  ((repeat refine JC.seq ?_); refine JC.region ?_)
                  refine JL.pure rfl rfl ?_
                  refine JL.pure rfl rfl ?_
                  refine JL.want rfl rfl ?_
                  refine JL.pure rfl rfl ?_
                  refine JL.want rfl rfl ?_
                  refine JL.pure rfl rfl ?_
                  refine JL.want rfl rfl ?_
                  refine JL.lenM (kev := Cell.ev) (vev := Value.int .i64) 0 H rfl rfl Try.underlying137 rfl ?_
                  refine JL.want rfl rfl ?_
                  refine JL.pure rfl rfl ?_
                  refine JL.re 161 rfl (v' := .bool true) (by simp) ?_
                  refine JL.pure rfl rfl ?_
                  refine JL.pure rfl rfl ?_
                  refine JL.want rfl rfl ?_
                  refine JL.pure rfl rfl ?_
                  refine JL.want rfl rfl ?_
                  refine JL.pure rfl rfl ?_
                  refine JL.want rfl rfl ?_
                  refine JL.callP H fb94 rfl rfl (count_c _ r _ (hr.grow H.below) htr (by omega)) ?_
                  intro w11 H _
                  refine JL.want rfl rfl ?_
                  refine JL.pure rfl rfl ?_
                  refine JL.re 167 rfl (v' := .bool true) (congrArg Value.bool (decide_eq_true (by omega))) ?_
                  refine JL.pure rfl rfl ?_
                  refine JL.pure rfl rfl ?_
                  refine JL.nil ?_
                  ((repeat refine Ex.normal_block ?_); refine Ex.next ?_)
                  ((repeat refine JC.seq ?_); refine JC.ret ?_)
                  (repeat (first | refine Ex.ret_then ?_ | refine Ex.ret_block ?_))
                  refine Ex.ret1 rfl (.tmp rfl) ⟨?_, H.below⟩
                  first | rfl | simp_all
            · intro e w9 he H
              obtain ⟨hes, a, ⟨c, kk⟩, b, rfl, hke, hve, hit2⟩ := hit.step hM he
              simp only at hke hve
              rw [hke, hve]
              have hcm : (c, kk) ∈ ofAll ps ps.length := hsub _ (by simp)
              have hrc := of_in hP hcm
              have hig := canon_inG hcan hrc
              unfold inG at hig
              refine JL.pure rfl rfl ?_
              refine JL.nil ?_
              ((repeat refine Ex.normal_block ?_); refine Ex.next ?_)
              ((repeat refine JC.seq ?_); refine JC.cond rfl (fun _ => ?_) (fun h => by cases h))
              ((repeat refine JC.seq ?_); refine JC.skip ?_)
              ((repeat refine Ex.normal_block ?_); refine Ex.next ?_)
              ((repeat refine JC.seq ?_); refine JC.block ?_)
              ((repeat refine JC.seq ?_); refine JC.region ?_)
              refine JL.entryM 0 1 H rfl rfl rfl hes hM.born rfl ?_
              rw [hke, hve]
              refine JL.pure rfl rfl ?_
              refine JL.pure rfl rfl ?_
              refine JL.alloc H z62 rfl ?_
              intro b16 w12 H
              refine JL.storeB 0 H rfl rfl sh62 rfl rfl rfl rfl rfl ?_
              intro w13 H
              refine JL.pure rfl rfl ?_
              refine JL.nil ?_
              ((repeat refine Ex.normal_block ?_); refine Ex.next ?_)
              ((repeat refine JC.seq ?_); refine JC.region ?_)
              refine JL.pure rfl rfl ?_
              refine JL.loadB 0 H rfl sh62 rfl rfl rfl ?_
              refine JL.callP H fb48 rfl rfl (v := .bool true) (by have := has_c _ r c _ (hr.grow H.below); rw [hrc] at this; exact this) ?_
              intro w14 H _
              refine JL.pure rfl rfl ?_
              refine JL.nil ?_
              ((repeat refine Ex.normal_block ?_); refine Ex.next ?_)
              ((repeat refine JC.seq ?_); refine JC.cond rfl (fun h => by cases h) (fun _ => ?_))
              ((repeat refine JC.seq ?_); refine JC.skip ?_)
              ((repeat refine Ex.normal_block ?_); refine Ex.next ?_)
              ((repeat refine JC.seq ?_); refine JC.region ?_)
              refine JL.loadB 0 H rfl sh62 rfl rfl rfl ?_
              refine JL.call fb93 rfl rfl (sidesRef_c c _ (by unfold tameC; omega)) ?_
              rintro _ w15 ⟨sv, rfl, K⟩
              obtain ⟨sa, sc, rfl⟩ := K.row_slice (j := 0) rfl
              have H := H.join K
              refine ⟨_, rfl, ?_⟩
              refine JL.len rfl Try.underlying68 rfl ?_
              refine JL.pure rfl rfl ?_
              refine JL.nil ?_
              ((repeat refine Ex.normal_block ?_); refine Ex.next ?_)
              ((repeat refine JC.seq ?_); refine JC.block ?_)
              ((repeat refine JC.seq ?_); refine JC.loop (ι := Nat) (fun j => [(1, .slice ra r.length rc), (2, .pointer (some ⟨b2, 0, none⟩)), (5, .bool true), (6, .slice oa vs.length oc), (8, .map (some β)), (9, .int .i64 (ofAll ps ps.length).length), (89, .pointer (some ⟨q, 0, none⟩)), (16, .pointer (some ⟨b16, 0, none⟩)), (17, .int .i64 kk), (100, .slice sa (sidesR c).length sc), (101, .int .i64 (sidesR c).length), (102, .int .i64 j)])
                (fun j wr => j ≤ 4 ∧ Own w wr (cellRow (.slice sa (sidesR c).length sc) (sidesR c) :: blk b16 (.cells ⟨[.int .i64 c.X, .int .i64 c.Y]⟩ 62 (0, 0)) :: [blk q (.mapIter (some β) clock (seen.push e.born) clock), blk β (.map es clock), trow 50 1 (fun v => [v]) (.slice oa vs.length oc) vs, bag (rowsOf runRow vs ps), blk b26 (.cells ⟨[.slice ra r.length rc]⟩ 50 (0, 0)), blk b2 (.cells ⟨[.int .i64 g.W, .int .i64 g.H, .int .i64 g.S, .slice la g.land.length lc]⟩ 52 (0, 0))])) (fun j => 4 - j) 0 ?_ ?_ ?_)
              · exact ⟨rfl, rfl, rfl, rfl, rfl, rfl, rfl, rfl, rfl, rfl, rfl, rfl, trivial⟩
              · exact ⟨Nat.zero_le _, H⟩
              · rintro j wr ⟨hj, H⟩
                ((repeat refine JC.seq ?_); refine JC.region ?_)
                refine JL.pure rfl rfl ?_
                refine JL.nil ?_
                ((repeat refine Ex.normal_block ?_); refine Ex.next ?_)
                ((repeat refine JC.seq ?_); refine JC.cond rfl ?_ ?_)
                · intro h103
                  (try simp only [Bool.not_eq_true', Bool.not_eq_false', decide_eq_true_eq, decide_eq_false_iff_not] at h103)
                  have h103 : j < 4 := by have : (sidesR c).length = 4 := rfl; omega
                  obtain ⟨d, hd⟩ : ∃ d, (sidesR c)[j]? = some d := ⟨_, List.getElem?_eq_getElem (show j < (sidesR c).length from h103)⟩
                  have hnear := of_near hP hcm (sidesR_mem (List.mem_of_getElem? hd))
                  obtain ⟨g3, c3, hg3, _, _, _⟩ := H.rowAt (j := 0) (e := 62) (sz := 2) (enc := Cell.cs) (fun _ => rfl) rfl hd
                  simp only [Value.slice.injEq] at hg3
                  obtain ⟨rfl, _, rfl⟩ := hg3
                  ((repeat refine JC.seq ?_); refine JC.skip ?_)
                  ((repeat refine Ex.normal_block ?_); refine Ex.next ?_)
                  ((repeat refine JC.seq ?_); refine JC.block ?_)
                  ((repeat refine JC.seq ?_); refine JC.region ?_)
                  refine JL.indexS j rfl rfl Try.underlying68 sh62 rfl h103 rfl ?_
                  refine JL.load rfl sh62 (H.rowLd (j := 0) (e := 62) (sz := 2) (enc := Cell.cs) (fun _ => rfl) rfl hd) rfl ?_
                  refine JL.alloc H z62 rfl ?_
                  intro b19 w16 H
                  refine JL.storeB 0 H rfl rfl sh62 rfl rfl rfl rfl rfl ?_
                  intro w17 H
                  refine JL.nil ?_
                  ((repeat refine Ex.normal_block ?_); refine Ex.next ?_)
                  ((repeat refine JC.seq ?_); refine JC.region ?_)
                  refine JL.pure rfl rfl ?_
                  refine JL.loadB 0 H rfl sh62 rfl rfl rfl ?_
                  refine JL.lookupB (vev := Value.int .i64) d 0 (H.get (i := 4) rfl).2 hM rfl rfl Try.underlying137 keyCell zero3 rfl ?_
                  show JL _ _ _ _ _ (Fr.put _ (Value.int .i64 ((mget (ofAll ps ps.length) d).getD 0)) _) _
                  refine JL.pure rfl rfl ?_
                  refine JL.pure rfl rfl ?_
                  refine JL.cases 110 rfl ?_ ?_
                  · intro h110
                    (try simp only [Bool.not_eq_true', Bool.not_eq_false', decide_eq_true_eq, decide_eq_false_iff_not] at h110)
                    refine JL.want rfl rfl ?_
                    refine JL.pure rfl rfl ?_
                    refine JL.want rfl rfl ?_
                    refine JL.loadB 0 H rfl sh62 rfl rfl rfl ?_
                    refine JL.want rfl rfl ?_
                    refine JL.lookupB (vev := Value.int .i64) d 0 (H.get (i := 4) rfl).2 hM rfl rfl Try.underlying137 keyCell zero3 rfl ?_
                    show JL _ _ _ _ _ (Fr.put _ (Value.int .i64 ((mget (ofAll ps ps.length) d).getD 0)) _) _
                    refine JL.want rfl rfl ?_
                    refine JL.pure rfl rfl ?_
                    refine JL.want rfl rfl ?_
                    refine JL.pure rfl rfl ?_
                    refine JL.re 115 rfl (v' := .bool false) (congrArg Value.bool (decide_eq_false (by omega))) ?_
                    refine JL.pure rfl rfl ?_
                    refine JL.nil ?_
                    ((repeat refine Ex.normal_block ?_); refine Ex.next ?_)
                    ((repeat refine JC.seq ?_); refine JC.cond rfl (fun h => by cases h) (fun _ => ?_))
                    ((repeat refine JC.seq ?_); refine JC.skip ?_)
                    ((repeat refine Ex.normal_block ?_); refine Ex.next ?_)
                    ((repeat refine JC.seq ?_); refine JC.region ?_)
                    refine JL.arith rfl (by unfold In64; omega) rfl ?_
                    refine JL.pure rfl rfl ?_
                    refine JL.nil ?_
                    (repeat refine Ex.normal_block ?_)
                    exact Ex.again (j + 1) ⟨rfl, rfl, rfl, rfl, rfl, rfl, rfl, rfl, rfl, rfl, rfl, rfl, trivial⟩ ⟨by omega, H.drop 0⟩ (by omega)
                  · intro h110
                    (try simp only [Bool.not_eq_true', Bool.not_eq_false', decide_eq_true_eq, decide_eq_false_iff_not] at h110)
                    refine JL.pass rfl rfl rfl rfl ?_
                    refine JL.pass rfl rfl rfl rfl ?_
                    refine JL.pass rfl rfl rfl rfl ?_
                    refine JL.pass rfl rfl rfl rfl ?_
                    refine JL.pass rfl rfl rfl rfl ?_
                    refine JL.pure rfl rfl ?_
                    refine JL.nil ?_
                    ((repeat refine Ex.normal_block ?_); refine Ex.next ?_)
                    ((repeat refine JC.seq ?_); refine JC.cond rfl (fun h => by cases h) (fun _ => ?_))
                    ((repeat refine JC.seq ?_); refine JC.skip ?_)
                    ((repeat refine Ex.normal_block ?_); refine Ex.next ?_)
                    ((repeat refine JC.seq ?_); refine JC.region ?_)
                    refine JL.arith rfl (by unfold In64; omega) rfl ?_
                    refine JL.pure rfl rfl ?_
                    refine JL.nil ?_
                    (repeat refine Ex.normal_block ?_)
                    exact Ex.again (j + 1) ⟨rfl, rfl, rfl, rfl, rfl, rfl, rfl, rfl, rfl, rfl, rfl, rfl, trivial⟩ ⟨by omega, H.drop 0⟩ (by omega)
                · intro h103
                  (try simp only [Bool.not_eq_true', Bool.not_eq_false', decide_eq_true_eq, decide_eq_false_iff_not] at h103)
                  have hj4 : ¬ (j : Int) < 4 := by have : (sidesR c).length = 4 := rfl; omega
                  ((repeat refine JC.seq ?_); refine JC.exit ?_)
                  (repeat (first | refine Ex.exit_then ?_ | refine Ex.exit_miss (by decide) ?_))
                  refine Ex.exit_hit ?_
                  (repeat refine Ex.normal_block ?_)
                  have hj4 : j = 4 := by omega
                  refine Ex.again (a ++ b, seen.push e.born, clock) ⟨rfl, rfl, rfl, rfl, rfl, rfl, rfl, trivial⟩ ⟨hit2, Nat.le_refl _, fun p hp => hsub p (by rcases List.mem_append.1 hp with h | h <;> simp [h]), (H.drop 0).drop 0⟩ (by simp only [List.length_append, List.length_cons]; omega)
end Go.J
