/-
  Lemmas for the statements of this seat; no statement is proved here. No condition.
-/
import Derived.Test.YtfbmgmdjaoackaaG13
namespace Go.J
open Go.RowKit Go.Proofs
set_option maxRecDepth 8000
set_option linter.unusedSimpArgs false
set_option linter.unusedVariables false
theorem rightFrom_mem {W H : Int} : ∀ {rs : List Run} {l : Run}, rightFrom W H l rs = true → ∀ x ∈ rs, (0 ≤ x.Y ∧ x.Y ≤ H - 1) ∧ 0 ≤ x.From ∧ x.From < x.To ∧ x.To ≤ W := by
  intro rs
  induction rs with
  | nil => intro l _ x h; cases h
  | cons y rs ih =>
    intro l h x hx
    simp only [rightFrom, Bool.and_eq_true, decide_eq_true_eq] at h
    cases hx with
    | head => obtain ⟨h1, _⟩ := h; unfold Run.ok at h1; omega
    | tail _ hx => exact ih h.2 x hx
theorem rightB_mem {W H : Int} {rs : List Run} (h : rightB W H rs = true) : ∀ x ∈ rs, (0 ≤ x.Y ∧ x.Y ≤ H - 1) ∧ 0 ≤ x.From ∧ x.From < x.To ∧ x.To ≤ W := by
  unfold rightB at h
  simp only [Bool.and_eq_true] at h
  exact rightFrom_mem h.1
theorem ediv_bd {a S M : Int} (hS : 1 ≤ S) (hM : 0 ≤ M) (h1 : -M ≤ a) (h2 : a ≤ M) : -M ≤ a / S ∧ a / S ≤ M := by
  have hMS : M ≤ M * S := by
    have := Int.mul_le_mul_of_nonneg_left hS hM
    omega
  constructor
  · rw [Int.le_ediv_iff_mul_le (by omega), Int.neg_mul]; omega
  · exact Int.ediv_le_of_le_mul (by omega) (by omega)
def growRow (W H a b lo : Int) (T : Tab) (n : Nat) : Tab := (List.range n).foldl (fun T (k : Nat) => T.add W H (lo + k) a b) T
theorem growRow_succ (W H a b lo : Int) (T : Tab) (n : Nat) : growRow W H a b lo T (n + 1) = (growRow W H a b lo T n).add W H (lo + n) a b := by
  unfold growRow; rw [List.range_succ, List.foldl_append]; rfl
theorem growRow_good {W H a b lo : Int} {T : Tab} {k : Nat} (h : Tab.good W k T) : ∀ n, Tab.good W (k + n) (growRow W H a b lo T n) := by
  intro n
  induction n with
  | zero => exact h
  | succ n ih => rw [growRow_succ]; exact ih.add _ _ _ _
structure Lead where
  w : Int
  e : Int
  s : Int
  n : Int
def growCnt (g : Grid) (l : Lead) (x : Run) : Nat := (min (x.Y + l.n) (g.H - 1) - max 0 (x.Y + l.s) + 1).toNat
def grow1 (g : Grid) (l : Lead) (T : Tab) (x : Run) : Tab := growRow g.W g.H (x.From + l.w) (x.To + l.e) (max 0 (x.Y + l.s)) T (growCnt g l x)
def growT (g : Grid) (l : Lead) (rs : List Run) : Tab := rs.foldl (grow1 g l) tab0
def offB (g : Grid) (l : Lead) (x : Run) : Bool := decide (x.From + l.w < 0) || decide (x.To + l.e > g.W) || decide (x.Y + l.s < 0) || decide (x.Y + l.n ≥ g.H)
theorem growCnt_le {g : Grid} (hH : 1 ≤ g.H ∧ g.H ≤ 256) (l : Lead) (x : Run) : growCnt g l x ≤ 256 := by unfold growCnt; omega
theorem growT_take {g : Grid} {l : Lead} {rs : List Run} {k : Nat} (hk : k < rs.length) : growT g l (rs.take (k + 1)) = grow1 g l (growT g l (rs.take k)) rs[k] := by
  unfold growT; rw [List.take_succ_eq_append_getElem hk, List.foldl_append]; rfl
theorem growT_good {g : Grid} (hH : 1 ≤ g.H ∧ g.H ≤ 256) (l : Lead) (rs : List Run) : ∀ k, k ≤ rs.length → Tab.good g.W (k * 256) (growT g l (rs.take k)) := by
  intro k
  induction k with
  | zero => intro _; exact tab0_good _
  | succ k ih =>
    intro hk
    rw [growT_take hk]
    have := growRow_good (W := g.W) (H := g.H) (a := rs[k].From + l.w) (b := rs[k].To + l.e) (lo := max 0 (rs[k].Y + l.s)) (ih (by omega)) (growCnt g l rs[k])
    exact this.mono (by have := growCnt_le hH l rs[k]; omega)
def leadOf (g : Grid) (p : Push) : Lead := ⟨p.Low.X / g.S, (g.S - 1 + p.High.X) / g.S, p.Low.Y / g.S, (g.S - 1 + p.High.Y) / g.S⟩
def growR (g : Grid) (r : List Run) (p : Push) : List Run × Bool × Int :=
  if checkedB g [r] && p.ok then
    if (regRes (growT g (leadOf g p) r)).2 = 0 then ((regRes (growT g (leadOf g p) r)).1, r.any (offB g (leadOf g p)), 0) else ([], false, (regRes (growT g (leadOf g p) r)).2)
  else ([], false, 2)
theorem grow_c (g : Grid) (lv rv : Value) (r : List Run) (p : Push) (w : World) (hl : SlR w lv g.land) (hr : SlR w rv r) :
    Calls Try.prog 43 #[g.ev lv, rv, p.ev] w (fun e w' => ∃ ov, e = .returned (.tuple #[ov, .bool (growR g r p).2.1, .int .i64 (growR g r p).2.2]) ∧ Own w w' [runRow ov (growR g r p).1]) := by
  obtain ⟨ra, rc, rfl⟩ := hr.len
  refine calls_J (args := [g.ev lv, .slice ra r.length rc, p.ev]) Try.func43 rfl Try.ntmps43 rfl ?_
  have H := Own.start w
  ((repeat refine JC.seq ?_); refine JC.region ?_)
  refine JL.box H rfl rfl rfl ?_
  intro b3 w1 H
  refine JL.box H rfl rfl rfl ?_
  intro b5 w2 H
  refine JL.pure rfl rfl ?_
  refine JL.pure rfl rfl ?_
  refine JL.pure rfl rfl ?_
  refine JL.nil ?_
  ((repeat refine Ex.normal_block ?_); refine Ex.next ?_)
  ((repeat refine JC.seq ?_); refine JC.region ?_)
  refine JL.loadB 1 H rfl sh52 rfl rfl rfl ?_
  refine JL.pure rfl rfl ?_
  refine JL.buildSlice H Try.underlying134 sh50 z50 rfl rfl rfl rfl rfl ?_
  intro b19 w3 H
  refine JL.callP H fb129 rfl rfl (checked_c g lv _ [(.slice ra r.length rc, r)] _ (hl.grow H.below) (H.blkSl1 (j := 0) (ev := Prod.fst) rfl [(.slice ra r.length rc, r)] rfl (by simp)) (by
    have hB := H.below
    intro q hq
    simp only [List.mem_cons, List.not_mem_nil, or_false] at hq
    subst hq
    exact hr.grow hB)) ?_
  intro w4 H _
  refine JL.pure rfl rfl ?_
  refine JL.pure rfl rfl ?_
  refine JL.cases 22 rfl ?_ ?_
  · intro h22
    (try simp only [Bool.not_eq_true', Bool.not_eq_false', decide_eq_true_eq, decide_eq_false_iff_not] at h22)
    have hok : checkedB g [r] = false := by
      cases hc : checkedB g [r] with
      | false => rfl
      | true => exfalso; simp [hc] at h22
    refine JL.pass rfl rfl rfl rfl ?_
    refine JL.pass rfl rfl rfl rfl ?_
    refine JL.pass rfl rfl rfl rfl ?_
    refine JL.pure rfl rfl ?_
    refine JL.nil ?_
    ((repeat refine Ex.normal_block ?_); refine Ex.next ?_)
    ((repeat refine JC.seq ?_); refine JC.cond rfl (fun _ => ?_) (fun h => by cases h))
    ((repeat refine JC.seq ?_); refine JC.region ?_)
    refine JL.pure rfl rfl ?_
    refine JL.pure rfl rfl ?_
    refine JL.pure rfl rfl ?_
    refine JL.nil ?_
    ((repeat refine Ex.normal_block ?_); refine Ex.next ?_)
    ((repeat refine JC.seq ?_); refine JC.ret ?_)
    (repeat (first | refine Ex.ret_then ?_ | refine Ex.ret_block ?_))
    refine Ex.ret3 rfl (.tmp rfl) (.tmp rfl) (.tmp rfl) ⟨.slice none 0 0, ?_, ?_⟩
    · unfold growR; rw [hok]; simp
    · unfold growR; rw [hok]; exact (((H.drop 0).drop 0).drop 0).nilRow 140 3
  · intro h22
    (try simp only [Bool.not_eq_true', Bool.not_eq_false', decide_eq_true_eq, decide_eq_false_iff_not] at h22)
    have hok : checkedB g [r] = true := by
      cases hc : checkedB g [r] with
      | true => rfl
      | false => exfalso; simp [hc] at h22
    obtain ⟨hgok, hall⟩ := checkedB_b hok
    obtain ⟨hgW, hgH, hgS, hgl⟩ := Grid.ok_b hgok
    have hrB := hall r (by simp)
    have hrl := rightB_len hrB
    have hrm := rightB_mem hrB
    refine JL.want rfl rfl ?_
    refine JL.loadB 1 H rfl sh54 rfl rfl rfl ?_
    refine JL.want rfl rfl ?_
    refine JL.callP H fb132 rfl rfl (pushed_c p _) ?_
    intro w5 H _
    refine JL.want rfl rfl ?_
    refine JL.pure rfl rfl ?_
    refine JL.pure rfl rfl ?_
    refine JL.nil ?_
    ((repeat refine Ex.normal_block ?_); refine Ex.next ?_)
    ((repeat refine JC.seq ?_); refine JC.cond rfl ?_ ?_)
    · intro h26
      (try simp only [Bool.not_eq_true', Bool.not_eq_false', decide_eq_true_eq, decide_eq_false_iff_not] at h26)
      
      ((repeat refine JC.seq ?_); refine JC.region ?_)
      refine JL.pure rfl rfl ?_
      refine JL.pure rfl rfl ?_
      refine JL.pure rfl rfl ?_
      refine JL.nil ?_
      ((repeat refine Ex.normal_block ?_); refine Ex.next ?_)
      ((repeat refine JC.seq ?_); refine JC.ret ?_)
      (repeat (first | refine Ex.ret_then ?_ | refine Ex.ret_block ?_))
      refine Ex.ret3 rfl (.tmp rfl) (.tmp rfl) (.tmp rfl) ⟨.slice none 0 0, ?_, ?_⟩
      · have hpok : p.ok = false := by simpa using h26
        unfold growR; rw [hok, hpok]; simp
      · have hpok : p.ok = false := by simpa using h26
        unfold growR; rw [hok, hpok]; exact (((H.drop 0).drop 0).drop 0).nilRow 140 3
    · intro h26
      (try simp only [Bool.not_eq_true', Bool.not_eq_false', decide_eq_true_eq, decide_eq_false_iff_not] at h26)
      have hpok : p.ok = true := by simpa using h26
      have hpb : (-16777216 ≤ p.Low.X ∧ p.Low.X ≤ p.High.X) ∧ (-16777216 ≤ p.Low.Y ∧ p.Low.Y ≤ p.High.Y) ∧ max p.High.X p.High.Y ≤ 16777216 := by
        unfold Push.ok at hpok
        simpa [and_assoc] using hpok
      have hw1 := ediv_bd (a := p.Low.X) (M := 100000000) hgS.1 (by omega) (by omega) (by omega)
      have hw2 := ediv_bd (a := g.S - 1 + p.High.X) (M := 100000000) hgS.1 (by omega) (by omega) (by omega)
      have hw3 := ediv_bd (a := p.Low.Y) (M := 100000000) hgS.1 (by omega) (by omega) (by omega)
      have hw4 := ediv_bd (a := g.S - 1 + p.High.Y) (M := 100000000) hgS.1 (by omega) (by omega) (by omega)
      obtain ⟨l, hl'⟩ : ∃ l, l = leadOf g p := ⟨_, rfl⟩
      have hlw : p.Low.X / g.S = l.w := by rw [hl']; rfl
      have hle : (g.S - 1 + p.High.X) / g.S = l.e := by rw [hl']; rfl
      have hls : p.Low.Y / g.S = l.s := by rw [hl']; rfl
      have hln : (g.S - 1 + p.High.Y) / g.S = l.n := by rw [hl']; rfl
      rw [hlw] at hw1
      rw [hle] at hw2
      rw [hls] at hw3
      rw [hln] at hw4
      ((repeat refine JC.seq ?_); refine JC.skip ?_)
      ((repeat refine Ex.normal_block ?_); refine Ex.next ?_)
      ((repeat refine JC.seq ?_); refine JC.region ?_)
      refine JL.loadB 2 H rfl sh52 rfl rfl rfl ?_
      refine JL.fieldAddr rfl Try.underlying54 rfl sh23 rfl ?_
      refine JL.fieldAddr rfl Try.underlying23 rfl sh3 rfl ?_
      refine JL.loadB 1 H rfl sh3 rfl rfl rfl ?_
      refine JL.fieldAddr rfl Try.underlying54 rfl sh23 rfl ?_
      refine JL.fieldAddr rfl Try.underlying23 rfl sh3 rfl ?_
      refine JL.loadB 1 H rfl sh3 rfl rfl rfl ?_
      refine JL.callP H fb133 rfl rfl (leads_c g lv _ _ _ hgS (by omega) (by omega)) ?_
      intro w6 H _
      (try rw [hlw, hle])
      (try rw [hls, hln])
      refine JL.pure rfl rfl ?_
      refine JL.pure rfl rfl ?_
      refine JL.pure rfl rfl ?_
      refine JL.pure rfl rfl ?_
      refine JL.pure rfl rfl ?_
      refine JL.nil ?_
      ((repeat refine Ex.normal_block ?_); refine Ex.next ?_)
      ((repeat refine JC.seq ?_); refine JC.region ?_)
      refine JL.loadB 2 H rfl sh52 rfl rfl rfl ?_
      refine JL.fieldAddr rfl Try.underlying54 rfl sh23 rfl ?_
      refine JL.fieldAddr rfl Try.underlying23 rfl sh3 rfl ?_
      refine JL.loadB 1 H rfl sh3 rfl rfl rfl ?_
      refine JL.fieldAddr rfl Try.underlying54 rfl sh23 rfl ?_
      refine JL.fieldAddr rfl Try.underlying23 rfl sh3 rfl ?_
      refine JL.loadB 1 H rfl sh3 rfl rfl rfl ?_
      refine JL.callP H fb133 rfl rfl (leads_c g lv _ _ _ hgS (by omega) (by omega)) ?_
      intro w7 H _
      (try rw [hlw, hle])
      (try rw [hls, hln])
      refine JL.pure rfl rfl ?_
      refine JL.pure rfl rfl ?_
      refine JL.pure rfl rfl ?_
      refine JL.pure rfl rfl ?_
      refine JL.pure rfl rfl ?_
      refine JL.nil ?_
      ((repeat refine Ex.normal_block ?_); refine Ex.next ?_)
      ((repeat refine JC.seq ?_); refine JC.region ?_)
      refine JL.buildA Try.underlying195 sh193 za195 rfl rfl ?_
      refine JL.box H rfl rfl rfl ?_
      intro b50 w8 H
      refine JL.pure rfl rfl ?_
      refine JL.nil ?_
      ((repeat refine Ex.normal_block ?_); refine Ex.next ?_)
      ((repeat refine JC.seq ?_); refine JC.region ?_)
      have H := H.newT
      refine JL.pure rfl rfl ?_
      refine JL.len rfl Try.underlying50 rfl ?_
      refine JL.pure rfl rfl ?_
      refine JL.nil ?_
      ((repeat refine Ex.normal_block ?_); refine Ex.next ?_)
      ((repeat refine JC.seq ?_); refine JC.block ?_)
      ((repeat refine JC.seq ?_); refine JC.loop (ι := Nat) (fun k => [(9, .int .i64 l.w), (10, .int .i64 l.e), (11, .int .i64 l.s), (12, .int .i64 l.n), (3, .pointer (some ⟨b3, 0, none⟩)), (13, .pointer (some ⟨b50, 0, none⟩)), (51, .slice ra r.length rc), (52, .int .i64 r.length), (53, .int .i64 k), (7, .bool ((r.take k).any (offB g l)))])
        (fun k wr => k ≤ r.length ∧ Own w wr [tbl b50 (growT g l (r.take k)), blk b3 (.cells ⟨[.int .i64 g.W, .int .i64 g.H, .int .i64 g.S, lv]⟩ 52 (0, 0))])
        (fun k => r.length - k) 0 ?_ ?_ ?_)
      · exact ⟨rfl, rfl, rfl, rfl, rfl, rfl, rfl, rfl, rfl, rfl, trivial⟩
      · exact ⟨Nat.zero_le _, ((H.drop 1).drop 1)⟩
      · rintro k wr ⟨hk, H⟩
        have hgd := growT_good hgH l r k hk
        ((repeat refine JC.seq ?_); refine JC.region ?_)
        refine JL.pure rfl rfl ?_
        refine JL.nil ?_
        ((repeat refine Ex.normal_block ?_); refine Ex.next ?_)
        ((repeat refine JC.seq ?_); refine JC.cond rfl ?_ ?_)
        · intro h54
          (try simp only [Bool.not_eq_true', Bool.not_eq_false', decide_eq_true_eq, decide_eq_false_iff_not] at h54)
          have h54 : k < r.length := by omega
          have hx : r[k]? = some r[k] := by simp [h54]
          have hxm := hrm _ (List.getElem_mem h54)
          obtain ⟨_, a', c', he', ha'⟩ := id hr
          cases he'
          obtain ⟨β, off, hra, hβ, hc⟩ := ha'.resolve_left (by rintro rfl; simp at h54)
          ((repeat refine JC.seq ?_); refine JC.skip ?_)
          ((repeat refine Ex.normal_block ?_); refine Ex.next ?_)
          ((repeat refine JC.seq ?_); refine JC.block ?_)
          ((repeat refine JC.seq ?_); refine JC.region ?_)
          refine JL.indexS k (congrArg (fun a => some (Value.slice a r.length rc)) hra) rfl Try.underlying50 sh140 rfl h54 rfl ?_
          refine JL.load rfl sh140 ((hc k _ hx).grow hβ H.below) rfl ?_
          refine JL.alloc H z140 rfl ?_
          intro b15 w9 H
          refine JL.storeB 0 H rfl rfl sh140 rfl rfl rfl rfl rfl ?_
          intro w10 H
          refine JL.nil ?_
          ((repeat refine Ex.normal_block ?_); refine Ex.next ?_)
          ((repeat refine JC.seq ?_); refine JC.regionTo ([(9, .int .i64 l.w), (10, .int .i64 l.e), (11, .int .i64 l.s), (12, .int .i64 l.n), (3, .pointer (some ⟨b3, 0, none⟩)), (13, .pointer (some ⟨b50, 0, none⟩)), (51, .slice ra r.length rc), (52, .int .i64 r.length), (53, .int .i64 k), (15, .pointer (some ⟨b15, 0, none⟩)), (7, .bool ((r.take k).any (offB g l) || offB g l r[k]))]) (fun wr => Own w wr [blk b15 (.cells ⟨[.int .i64 r[k].Y, .int .i64 r[k].From, .int .i64 r[k].To]⟩ 140 (0, 0)), tbl b50 (growT g l (r.take k)), blk b3 (.cells ⟨[.int .i64 g.W, .int .i64 g.H, .int .i64 g.S, lv]⟩ 52 (0, 0))]) ?_ ?_)
          ·
            refine JL.pure rfl rfl ?_
            refine JL.pure rfl rfl ?_
            refine JL.cases 58 rfl ?_ ?_
            · intro h58
              (try simp only [Bool.not_eq_true', Bool.not_eq_false', decide_eq_true_eq, decide_eq_false_iff_not] at h58)
              refine JL.pass rfl rfl rfl rfl ?_
              refine JL.pass rfl rfl rfl rfl ?_
              refine JL.pass rfl rfl rfl rfl ?_
              refine JL.pass rfl rfl rfl rfl ?_
              refine JL.pass rfl rfl rfl rfl ?_
              refine JL.pure rfl rfl ?_
              refine JL.pure rfl rfl ?_
              refine JL.pass rfl rfl rfl rfl ?_
              refine JL.pass rfl rfl rfl rfl ?_
              refine JL.pass rfl rfl rfl rfl ?_
              refine JL.pass rfl rfl rfl rfl ?_
              refine JL.pass rfl rfl rfl rfl ?_
              refine JL.pass rfl rfl rfl rfl ?_
              refine JL.pass rfl rfl rfl rfl ?_
              refine JL.pure rfl rfl ?_
              refine JL.pure rfl rfl ?_
              refine JL.pass rfl rfl rfl rfl ?_
              refine JL.pass rfl rfl rfl rfl ?_
              refine JL.pass rfl rfl rfl rfl ?_
              refine JL.pass rfl rfl rfl rfl ?_
              refine JL.pass rfl rfl rfl rfl ?_
              refine JL.pure rfl rfl ?_
              refine JL.pure rfl rfl ?_
              refine JL.pass rfl rfl rfl rfl ?_
              refine JL.pass rfl rfl rfl rfl ?_
              refine JL.pass rfl rfl rfl rfl ?_
              refine JL.pass rfl rfl rfl rfl ?_
              refine JL.pass rfl rfl rfl rfl ?_
              refine JL.pass rfl rfl rfl rfl ?_
              refine JL.pass rfl rfl rfl rfl ?_
              refine JL.pure rfl rfl ?_
              refine JL.pure rfl rfl ?_
              refine JL.nil ?_
              refine Ex.to ⟨rfl, rfl, rfl, rfl, rfl, rfl, rfl, rfl, rfl, rfl, ?_, trivial⟩ H
              show some (Value.bool _) = some (Value.bool _)
              clear hl' hlw hle hls hln
              simp only [h58]
              unfold offB
              simp [*]
            · intro h58
              (try simp only [Bool.not_eq_true', Bool.not_eq_false', decide_eq_true_eq, decide_eq_false_iff_not] at h58)
              refine JL.want rfl rfl ?_
              refine JL.fieldAddr rfl Try.underlying140 rfl sh3 rfl ?_
              refine JL.want rfl rfl ?_
              refine JL.loadB 0 H rfl sh3 rfl rfl rfl ?_
              refine JL.want rfl rfl ?_
              refine JL.pure rfl rfl ?_
              refine JL.want rfl rfl ?_
              refine JL.arith rfl (by unfold In64; omega) rfl ?_
              refine JL.want rfl rfl ?_
              refine JL.pure rfl rfl ?_
              refine JL.pure rfl rfl ?_
              refine JL.pure rfl rfl ?_
              refine JL.cases 65 rfl ?_ ?_
              · intro h65
                (try simp only [Bool.not_eq_true', Bool.not_eq_false', decide_eq_true_eq, decide_eq_false_iff_not] at h65)
                refine JL.pass rfl rfl rfl rfl ?_
                refine JL.pass rfl rfl rfl rfl ?_
                refine JL.pass rfl rfl rfl rfl ?_
                refine JL.pass rfl rfl rfl rfl ?_
                refine JL.pass rfl rfl rfl rfl ?_
                refine JL.pass rfl rfl rfl rfl ?_
                refine JL.pass rfl rfl rfl rfl ?_
                refine JL.pure rfl rfl ?_
                refine JL.pure rfl rfl ?_
                refine JL.pass rfl rfl rfl rfl ?_
                refine JL.pass rfl rfl rfl rfl ?_
                refine JL.pass rfl rfl rfl rfl ?_
                refine JL.pass rfl rfl rfl rfl ?_
                refine JL.pass rfl rfl rfl rfl ?_
                refine JL.pure rfl rfl ?_
                refine JL.pure rfl rfl ?_
                refine JL.pass rfl rfl rfl rfl ?_
                refine JL.pass rfl rfl rfl rfl ?_
                refine JL.pass rfl rfl rfl rfl ?_
                refine JL.pass rfl rfl rfl rfl ?_
                refine JL.pass rfl rfl rfl rfl ?_
                refine JL.pass rfl rfl rfl rfl ?_
                refine JL.pass rfl rfl rfl rfl ?_
                refine JL.pure rfl rfl ?_
                refine JL.pure rfl rfl ?_
                refine JL.nil ?_
                refine Ex.to ⟨rfl, rfl, rfl, rfl, rfl, rfl, rfl, rfl, rfl, rfl, ?_, trivial⟩ H
                show some (Value.bool _) = some (Value.bool _)
                clear hl' hlw hle hls hln
                simp only [h58]
                unfold offB
                simp [*]
              · intro h65
                (try simp only [Bool.not_eq_true', Bool.not_eq_false', decide_eq_true_eq, decide_eq_false_iff_not] at h65)
                refine JL.want rfl rfl ?_
                refine JL.fieldAddr rfl Try.underlying140 rfl sh3 rfl ?_
                refine JL.want rfl rfl ?_
                refine JL.loadB 0 H rfl sh3 rfl rfl rfl ?_
                refine JL.want rfl rfl ?_
                refine JL.pure rfl rfl ?_
                refine JL.want rfl rfl ?_
                refine JL.arith rfl (by unfold In64; omega) rfl ?_
                refine JL.want rfl rfl ?_
                refine JL.fieldAddr rfl Try.underlying52 rfl sh3 rfl ?_
                refine JL.want rfl rfl ?_
                refine JL.loadB 2 H rfl sh3 rfl rfl rfl ?_
                refine JL.want rfl rfl ?_
                refine JL.pure rfl rfl ?_
                refine JL.pure rfl rfl ?_
                refine JL.pure rfl rfl ?_
                refine JL.cases 74 rfl ?_ ?_
                · intro h74
                  (try simp only [Bool.not_eq_true', Bool.not_eq_false', decide_eq_true_eq, decide_eq_false_iff_not] at h74)
                  refine JL.pass rfl rfl rfl rfl ?_
                  refine JL.pass rfl rfl rfl rfl ?_
                  refine JL.pass rfl rfl rfl rfl ?_
                  refine JL.pass rfl rfl rfl rfl ?_
                  refine JL.pass rfl rfl rfl rfl ?_
                  refine JL.pure rfl rfl ?_
                  refine JL.pure rfl rfl ?_
                  refine JL.pass rfl rfl rfl rfl ?_
                  refine JL.pass rfl rfl rfl rfl ?_
                  refine JL.pass rfl rfl rfl rfl ?_
                  refine JL.pass rfl rfl rfl rfl ?_
                  refine JL.pass rfl rfl rfl rfl ?_
                  refine JL.pass rfl rfl rfl rfl ?_
                  refine JL.pass rfl rfl rfl rfl ?_
                  refine JL.pure rfl rfl ?_
                  refine JL.pure rfl rfl ?_
                  refine JL.nil ?_
                  refine Ex.to ⟨rfl, rfl, rfl, rfl, rfl, rfl, rfl, rfl, rfl, rfl, ?_, trivial⟩ H
                  show some (Value.bool _) = some (Value.bool _)
                  clear hl' hlw hle hls hln
                  simp only [h58]
                  unfold offB
                  simp [*]
                · intro h74
                  (try simp only [Bool.not_eq_true', Bool.not_eq_false', decide_eq_true_eq, decide_eq_false_iff_not] at h74)
                  refine JL.want rfl rfl ?_
                  refine JL.fieldAddr rfl Try.underlying140 rfl sh3 rfl ?_
                  refine JL.want rfl rfl ?_
                  refine JL.loadB 0 H rfl sh3 rfl rfl rfl ?_
                  refine JL.want rfl rfl ?_
                  refine JL.pure rfl rfl ?_
                  refine JL.want rfl rfl ?_
                  refine JL.arith rfl (by unfold In64; omega) rfl ?_
                  refine JL.want rfl rfl ?_
                  refine JL.pure rfl rfl ?_
                  refine JL.pure rfl rfl ?_
                  refine JL.pure rfl rfl ?_
                  refine JL.cases 81 rfl ?_ ?_
                  · intro h81
                    (try simp only [Bool.not_eq_true', Bool.not_eq_false', decide_eq_true_eq, decide_eq_false_iff_not] at h81)
                    refine JL.pass rfl rfl rfl rfl ?_
                    refine JL.pass rfl rfl rfl rfl ?_
                    refine JL.pass rfl rfl rfl rfl ?_
                    refine JL.pass rfl rfl rfl rfl ?_
                    refine JL.pass rfl rfl rfl rfl ?_
                    refine JL.pass rfl rfl rfl rfl ?_
                    refine JL.pass rfl rfl rfl rfl ?_
                    refine JL.pure rfl rfl ?_
                    refine JL.pure rfl rfl ?_
                    refine JL.nil ?_
                    refine Ex.to ⟨rfl, rfl, rfl, rfl, rfl, rfl, rfl, rfl, rfl, rfl, ?_, trivial⟩ H
                    show some (Value.bool _) = some (Value.bool _)
                    clear hl' hlw hle hls hln
                    simp only [h58]
                    unfold offB
                    simp [*]
                  · intro h81
                    (try simp only [Bool.not_eq_true', Bool.not_eq_false', decide_eq_true_eq, decide_eq_false_iff_not] at h81)
                    refine JL.want rfl rfl ?_
                    refine JL.fieldAddr rfl Try.underlying140 rfl sh3 rfl ?_
                    refine JL.want rfl rfl ?_
                    refine JL.loadB 0 H rfl sh3 rfl rfl rfl ?_
                    refine JL.want rfl rfl ?_
                    refine JL.pure rfl rfl ?_
                    refine JL.want rfl rfl ?_
                    refine JL.arith rfl (by unfold In64; omega) rfl ?_
                    refine JL.want rfl rfl ?_
                    refine JL.fieldAddr rfl Try.underlying52 rfl sh3 rfl ?_
                    refine JL.want rfl rfl ?_
                    refine JL.loadB 2 H rfl sh3 rfl rfl rfl ?_
                    refine JL.want rfl rfl ?_
                    refine JL.pure rfl rfl ?_
                    refine JL.pure rfl rfl ?_
                    refine JL.pure rfl rfl ?_
                    refine JL.nil ?_
                    refine Ex.to ⟨rfl, rfl, rfl, rfl, rfl, rfl, rfl, rfl, rfl, rfl, ?_, trivial⟩ H
                    show some (Value.bool _) = some (Value.bool _)
                    clear hl' hlw hle hls hln
                    simp only [h58]
                    unfold offB
                    simp [*]
          · intro wc H
            ((repeat refine Ex.normal_block ?_); refine Ex.next ?_)
            ((repeat refine JC.seq ?_); refine JC.region ?_)
            refine JL.fieldAddr rfl Try.underlying140 rfl sh3 rfl ?_
            refine JL.loadB 0 H rfl sh3 rfl rfl rfl ?_
            refine JL.pure rfl rfl ?_
            refine JL.arith rfl (by unfold In64; omega) rfl ?_
            refine JL.pure rfl rfl ?_
            refine JL.pure rfl rfl ?_
            refine JL.nil ?_
            ((repeat refine Ex.normal_block ?_); refine Ex.next ?_)
            ((repeat refine JC.seq ?_); refine JC.block ?_)
            ((repeat refine JC.seq ?_); refine JC.loop (ι := Nat) (fun j => [(9, .int .i64 l.w), (10, .int .i64 l.e), (11, .int .i64 l.s), (12, .int .i64 l.n), (3, .pointer (some ⟨b3, 0, none⟩)), (13, .pointer (some ⟨b50, 0, none⟩)), (51, .slice ra r.length rc), (52, .int .i64 r.length), (53, .int .i64 k), (15, .pointer (some ⟨b15, 0, none⟩)), (7, .bool ((r.take k).any (offB g l) || offB g l r[k])), (16, .int .i64 (max 0 (r[k].Y + l.s) + j))])
              (fun j wr => j ≤ growCnt g l r[k] ∧ Own w wr [tbl b50 (growRow g.W g.H (r[k].From + l.w) (r[k].To + l.e) (max 0 (r[k].Y + l.s)) (growT g l (r.take k)) j), blk b15 (.cells ⟨[.int .i64 r[k].Y, .int .i64 r[k].From, .int .i64 r[k].To]⟩ 140 (0, 0)), blk b3 (.cells ⟨[.int .i64 g.W, .int .i64 g.H, .int .i64 g.S, lv]⟩ 52 (0, 0))])
              (fun j => growCnt g l r[k] - j) 0 ?_ ?_ ?_)
            · exact ⟨rfl, rfl, rfl, rfl, rfl, rfl, rfl, rfl, rfl, rfl, rfl, by simp [Fr.get, Fr.put], trivial⟩
            · exact ⟨Nat.zero_le _, H.front 1 rfl⟩
            · rintro j wr ⟨hj, H⟩
              have hgd2 := growRow_good (W := g.W) (H := g.H) (a := r[k].From + l.w) (b := r[k].To + l.e) (lo := max 0 (r[k].Y + l.s)) hgd j
              have hcl := growCnt_le hgH l r[k]
              ((repeat refine JC.seq ?_); refine JC.region ?_)
              refine JL.pure rfl rfl ?_
              refine JL.fieldAddr rfl Try.underlying140 rfl sh3 rfl ?_
              refine JL.loadB 1 H rfl sh3 rfl rfl rfl ?_
              refine JL.pure rfl rfl ?_
              refine JL.arith rfl (by unfold In64; omega) rfl ?_
              refine JL.fieldAddr rfl Try.underlying52 rfl sh3 rfl ?_
              refine JL.loadB 2 H rfl sh3 rfl rfl rfl ?_
              refine JL.arith rfl (by unfold In64; omega) rfl ?_
              refine JL.pure rfl rfl ?_
              refine JL.pure rfl rfl ?_
              refine JL.nil ?_
              ((repeat refine Ex.normal_block ?_); refine Ex.next ?_)
              ((repeat refine JC.seq ?_); refine JC.cond rfl ?_ ?_)
              · intro h104
                (try simp only [Bool.not_eq_true', Bool.not_eq_false', decide_eq_true_eq, decide_eq_false_iff_not] at h104)
                ((repeat refine JC.seq ?_); refine JC.skip ?_)
                ((repeat refine Ex.normal_block ?_); refine Ex.next ?_)
                ((repeat refine JC.seq ?_); refine JC.block ?_)
                ((repeat refine JC.seq ?_); refine JC.region ?_)
                refine JL.pure rfl rfl ?_
                refine JL.loadB 2 H rfl sh52 rfl rfl rfl ?_
                refine JL.pure rfl rfl ?_
                refine JL.fieldAddr rfl Try.underlying140 rfl sh3 rfl ?_
                refine JL.loadB 1 H rfl sh3 rfl rfl rfl ?_
                refine JL.pure rfl rfl ?_
                refine JL.arith rfl (by unfold In64; omega) rfl ?_
                refine JL.fieldAddr rfl Try.underlying140 rfl sh3 rfl ?_
                refine JL.loadB 1 H rfl sh3 rfl rfl rfl ?_
                refine JL.pure rfl rfl ?_
                refine JL.arith rfl (by unfold In64; omega) rfl ?_
                refine JL.call fb134 rfl rfl (add_c H _ _ _ _ _ _ _ hgH hgW.2 (fun l hl => by have := hgd2.le l hl; omega)) ?_
                rintro _ w11 ⟨rfl, H⟩
                refine ⟨_, rfl, ?_⟩
                refine JL.nil ?_
                ((repeat refine Ex.normal_block ?_); refine Ex.next ?_)
                ((repeat refine JC.seq ?_); refine JC.region ?_)
                refine JL.pure rfl rfl ?_
                refine JL.arith rfl (by unfold In64; omega) rfl ?_
                refine JL.pure rfl rfl ?_
                refine JL.nil ?_
                (repeat refine Ex.normal_block ?_)
                rw [← growRow_succ] at H
                refine Ex.again (j + 1) ⟨rfl, rfl, rfl, rfl, rfl, rfl, rfl, rfl, rfl, rfl, rfl, ?_, trivial⟩ ⟨by unfold growCnt at hj ⊢; omega, H⟩ (by unfold growCnt at hj ⊢; omega)
                show some (Value.int .i64 _) = some (Value.int .i64 _)
                congr 2; omega
              · intro h104
                (try simp only [Bool.not_eq_true', Bool.not_eq_false', decide_eq_true_eq, decide_eq_false_iff_not] at h104)
                ((repeat refine JC.seq ?_); refine JC.exit ?_)
                (repeat (first | refine Ex.exit_then ?_ | refine Ex.exit_miss (by decide) ?_))
                refine Ex.exit_hit ?_
                ((repeat refine Ex.normal_block ?_); refine Ex.next ?_)
                ((repeat refine JC.seq ?_); refine JC.region ?_)
                refine JL.arith rfl (by unfold In64; omega) rfl ?_
                refine JL.pure rfl rfl ?_
                refine JL.nil ?_
                (repeat refine Ex.normal_block ?_)
                have hjj : j = growCnt g l r[k] := by unfold growCnt at hj ⊢; omega
                subst hjj
                have hg1 : growRow g.W g.H (r[k].From + l.w) (r[k].To + l.e) (max 0 (r[k].Y + l.s)) (growT g l (r.take k)) (growCnt g l r[k]) = growT g l (r.take (k + 1)) := (growT_take h54).symm
                rw [hg1] at H
                refine Ex.again (k + 1) ⟨rfl, rfl, rfl, rfl, rfl, rfl, rfl, rfl, rfl, ?_, trivial⟩ ⟨h54, H.drop 1⟩ (by omega)
                show some (Value.bool _) = some (Value.bool _)
                rw [List.take_succ_eq_append_getElem h54, List.any_append]
                simp
        · intro h54
          (try simp only [Bool.not_eq_true', Bool.not_eq_false', decide_eq_true_eq, decide_eq_false_iff_not] at h54)
          
          ((repeat refine JC.seq ?_); refine JC.exit ?_)
          (repeat (first | refine Ex.exit_then ?_ | refine Ex.exit_miss (by decide) ?_))
          refine Ex.exit_hit ?_
          ((repeat refine Ex.normal_block ?_); refine Ex.next ?_)
          ((repeat refine JC.seq ?_); refine JC.region ?_)
          refine JL.pure rfl rfl ?_
          have hkk : k = r.length := by omega
          subst hkk
          refine JL.call fb131 rfl rfl (region_c2 H hgd (by omega) hgW.2) ?_
          rintro _ w12 ⟨ov, rfl, H⟩
          refine ⟨_, rfl, ?_⟩
          rw [List.take_length] at H ⊢
          refine JL.pure rfl rfl ?_
          refine JL.pure rfl rfl ?_
          refine JL.pure rfl rfl ?_
          refine JL.pure rfl rfl ?_
          refine JL.pure rfl rfl ?_
          refine JL.nil ?_
          ((repeat refine Ex.normal_block ?_); refine Ex.next ?_)
          ((repeat refine JC.seq ?_); refine JC.region ?_)
          refine JL.pure rfl rfl ?_
          refine JL.pure rfl rfl ?_
          refine JL.nil ?_
          ((repeat refine Ex.normal_block ?_); refine Ex.next ?_)
          ((repeat refine JC.seq ?_); refine JC.cond rfl ?_ ?_)
          · intro h126
            (try simp only [Bool.not_eq_true', Bool.not_eq_false', decide_eq_true_eq, decide_eq_false_iff_not] at h126)
            ((repeat refine JC.seq ?_); refine JC.region ?_)
            refine JL.pure rfl rfl ?_
            refine JL.pure rfl rfl ?_
            refine JL.pure rfl rfl ?_
            refine JL.pure rfl rfl ?_
            refine JL.nil ?_
            ((repeat refine Ex.normal_block ?_); refine Ex.next ?_)
            ((repeat refine JC.seq ?_); refine JC.ret ?_)
            (repeat (first | refine Ex.ret_then ?_ | refine Ex.ret_block ?_))
            have hne : ¬ (regRes (growT g (leadOf g p) r)).2 = 0 := by rw [← hl']; exact h126
            refine Ex.ret3 rfl (.tmp rfl) (.tmp rfl) (.tmp rfl) ⟨.slice none 0 0, ?_, ?_⟩
            · unfold growR; rw [hok, hpok]; simp only [Bool.and_self, if_true, if_neg hne, hl']
            · unfold growR; rw [hok, hpok]; simp only [Bool.and_self, if_true, if_neg hne]; exact ((H.drop 0).drop 0).nilRow 140 3
          · intro h126
            (try simp only [Bool.not_eq_true', Bool.not_eq_false', decide_eq_true_eq, decide_eq_false_iff_not] at h126)
            ((repeat refine JC.seq ?_); refine JC.skip ?_)
            ((repeat refine Ex.normal_block ?_); refine Ex.next ?_)
            ((repeat refine JC.seq ?_); refine JC.region ?_)
            refine JL.pure rfl rfl ?_
            refine JL.pure rfl rfl ?_
            refine JL.pure rfl rfl ?_
            refine JL.pure rfl rfl ?_
            refine JL.pure rfl rfl ?_
            refine JL.nil ?_
            ((repeat refine Ex.normal_block ?_); refine Ex.next ?_)
            ((repeat refine JC.seq ?_); refine JC.ret ?_)
            (repeat (first | refine Ex.ret_then ?_ | refine Ex.ret_block ?_))
            have hne : (regRes (growT g (leadOf g p) r)).2 = 0 := by rw [← hl']; omega
            refine Ex.ret3 rfl (.tmp rfl) (.tmp rfl) (.tmp rfl) ⟨ov, ?_, ?_⟩
            · unfold growR; rw [hok, hpok]; simp only [Bool.and_self, if_true, if_pos hne, hl']
            · unfold growR; rw [hok, hpok]; simp only [Bool.and_self, if_true, if_pos hne]; rw [← hl']; exact H.drop 1
end Go.J
