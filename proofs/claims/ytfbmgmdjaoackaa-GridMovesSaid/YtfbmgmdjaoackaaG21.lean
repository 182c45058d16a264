/-
  Lemmas for the statements of this seat; no statement is proved here. No condition.
-/
import Derived.Test.YtfbmgmdjaoackaaG20
import Derived.Test.YtfbmgmdjaoackaaJMap
import Derived.Test.YtfbmgmdjaoackaaPRuns
namespace Go.J
open Go.RowKit Go.Proofs
set_option maxRecDepth 8000
set_option linter.unusedSimpArgs false
set_option linter.unusedVariables false
theorem equal_two {t : TypeId} (ht : t = 62 ∨ t = 23) (a b x y : Int) (w : World) : (Op.equal t (.agg ⟨[.int .i64 a, .int .i64 b]⟩) (.agg ⟨[.int .i64 x, .int .i64 y]⟩)).run Try.prog w = .ok (decide (a = x ∧ b = y)) w := by
  have u3 := Try.underlying3
  have a3 := Try.isAgg3
  have z3 := Try.sizeOf3
  rcases ht with rfl | rfl
  · unfold Op.equal Op.maxDepth
    rw [show (10000 : Nat) = 9999 + 1 from rfl, run_equalIn_agg w 9999 62 _ _ (by kernel_rfl) (by kernel_rfl)]
    simp only [Program.fieldsOf, Try.underlying62]
    go_simp
    by_cases h1 : a = x <;> by_cases h2 : b = y <;> simp [h1, h2]
  · unfold Op.equal Op.maxDepth
    rw [show (10000 : Nat) = 9999 + 1 from rfl, run_equalIn_agg w 9999 23 _ _ (by kernel_rfl) (by kernel_rfl)]
    simp only [Program.fieldsOf, Try.underlying23]
    go_simp
    by_cases h1 : a = x <;> by_cases h2 : b = y <;> simp [h1, h2]
theorem check_two {t : TypeId} (ht : t = 62 ∨ t = 23) (em : Bool) (a b : Int) (w : World) : (Instr.checkKey em 10000 t (.agg ⟨[.int .i64 a, .int .i64 b]⟩)).run Try.prog w = .ok () w := by
  have u3 := Try.underlying3
  have a3 := Try.isAgg3
  have z3 := Try.sizeOf3
  rcases ht with rfl | rfl
  · rw [show (10000 : Nat) = 9998 + 1 + 1 from rfl]
    unfold Instr.checkKey
    rw [Sem.run_bind, run_underlying Try.underlying62]
    simp only [Result.andThen]
    go_simp
    unfold Instr.checkKey
    go_simp
  · rw [show (10000 : Nat) = 9998 + 1 + 1 from rfl]
    unfold Instr.checkKey
    rw [Sem.run_bind, run_underlying Try.underlying23]
    simp only [Result.andThen]
    go_simp
    unfold Instr.checkKey
    go_simp
theorem bits_two (a b : Int) : Instr.sameBits 10000 (.agg ⟨[.int .i64 a, .int .i64 b]⟩) (.agg ⟨[.int .i64 a, .int .i64 b]⟩) = true := by
  rw [show (10000 : Nat) = 9998 + 1 + 1 from rfl]
  simp [Instr.sameBits]
theorem keyCell : KeyT Try.prog 62 Cell.ev := KeyT.agg Try.underlying62 (fun {a b} h => by cases a; cases b; simpa [Cell.ev] using h) (fun em k w => check_two (.inl rfl) em k.X k.Y w)
  (fun a b w => by
    have := equal_two (.inl rfl) a.X a.Y b.X b.Y w
    rw [show (decide (a = b)) = decide (a.X = b.X ∧ a.Y = b.Y) by cases a; cases b; simp]
    exact this) (fun k => bits_two k.X k.Y)
/-- a set of cells, as a map -/
def MSet (m : List (Cell × Bool)) (P : Cell → Prop) : Prop := ∀ c, (mget m c).getD false = true ↔ P c
theorem MSet.nil : MSet [] (fun _ => False) := fun c => by simp [mget]
theorem MSet.set {m : List (Cell × Bool)} {P : Cell → Prop} (h : MSet m P) (k : Cell) : MSet (mset m k true) (fun c => P c ∨ c = k) := fun c => by
  rw [mget_mset]
  by_cases hk : k = c
  · subst hk; simp
  · rw [if_neg hk, h c]
    constructor
    · exact .inl
    · rintro (h | h)
      · exact h
      · exact absurd h.symm hk
theorem MSet.put {m : List (Cell × Bool)} {P : Cell → Prop} (h : MSet m P) (k : Cell) (b : Bool) : MSet (mset m k b) (fun c => (c = k ∧ b = true) ∨ (c ≠ k ∧ P c)) := fun c => by
  rw [mget_mset]
  by_cases hk : k = c
  · subst hk; simp
  · rw [if_neg hk, h c]
    constructor
    · intro h; exact .inr ⟨fun e => hk e.symm, h⟩
    · rintro (h | h)
      · exact absurd h.1.symm hk
      · exact h.2
theorem MSet.congr {m : List (Cell × Bool)} {P P' : Cell → Prop} (h : MSet m P) (e : ∀ c, P c ↔ P' c) : MSet m P' := fun c => (h c).trans (e c)
theorem cell_eq {c : Cell} {x y : Int} : c = ⟨x, y⟩ ↔ c.X = x ∧ c.Y = y := by cases c; simp
theorem hasB_take {rs : List Run} {k : Nat} (hk : k < rs.length) (c : Cell) : hasB (rs.take (k + 1)) c = true ↔ hasB (rs.take k) c = true ∨ (rs[k].Y = c.Y ∧ rs[k].From ≤ c.X ∧ c.X < rs[k].To) := by
  rw [List.take_succ_eq_append_getElem hk, hasB_append, hasB_one]
def setM (β : Nat) (m : List (Cell × Bool)) : HP := tmap Cell.ev Value.bool β m
/-- runs whose numbers are no odd ones -/
def Tame (rs : List Run) : Prop := ∀ r ∈ rs, (-1000000000000 ≤ r.From ∧ r.From ≤ 1000000000000) ∧ -1000000000000 ≤ r.To ∧ r.To ≤ 1000000000000
theorem of_c (v : Value) (rs : List Run) (w : World) (hr : SlR w v rs) (ht : Tame rs) : Calls Try.prog 135 #[v] w (fun e w' => ∃ β m, e = .returned (.map (some β)) ∧ Own w w' [setM β m] ∧ MSet m (fun c => hasB rs c = true)) := by
  obtain ⟨hlen, a, cap, rfl, ha⟩ := hr
  refine calls_J (args := [.slice a rs.length cap]) Try.func135 rfl Try.ntmps135 rfl ?_
  have H := Own.start w
  ((repeat refine JC.seq ?_); refine JC.region ?_)
  refine JL.pure rfl rfl ?_
  refine JL.nil ?_
  ((repeat refine Ex.normal_block ?_); refine Ex.next ?_)
  ((repeat refine JC.seq ?_); refine JC.region ?_)
  refine JL.makeMap Cell.ev Value.bool H rfl ?_
  intro β w1 H
  refine JL.pure rfl rfl ?_
  refine JL.nil ?_
  ((repeat refine Ex.normal_block ?_); refine Ex.next ?_)
  ((repeat refine JC.seq ?_); refine JC.region ?_)
  refine JL.pure rfl rfl ?_
  refine JL.nil ?_
  ((repeat refine Ex.normal_block ?_); refine Ex.next ?_)
  ((repeat refine JC.seq ?_); refine JC.block ?_)
  ((repeat refine JC.seq ?_); refine JC.loop (ι := Nat × List (Cell × Bool)) (fun x => [(0, .slice a rs.length cap), (3, .map (some β)), (4, .int .i64 x.1)])
    (fun x wr => x.1 ≤ rs.length ∧ MSet x.2 (fun c => hasB (rs.take x.1) c = true) ∧ Own w wr [setM β x.2]) (fun x => rs.length - x.1) (0, []) ?_ ?_ ?_)
  · exact ⟨rfl, rfl, rfl, trivial⟩
  · exact ⟨Nat.zero_le _, MSet.nil.congr fun c => by simp [hasB], H⟩
  · rintro ⟨k, m⟩ wr ⟨hk, hm, H⟩
    simp only at hk hm H
    show JC _ _ _ _ [(0, .slice a rs.length cap), (3, .map (some β)), (4, .int .i64 k)] _
    ((repeat refine JC.seq ?_); refine JC.region ?_)
    refine JL.pure rfl rfl ?_
    refine JL.pure rfl rfl ?_
    refine JL.len rfl Try.underlying50 rfl ?_
    refine JL.pure rfl rfl ?_
    refine JL.nil ?_
    ((repeat refine Ex.normal_block ?_); refine Ex.next ?_)
    ((repeat refine JC.seq ?_); refine JC.cond rfl ?_ ?_)
    · intro h10
      (try simp only [Bool.not_eq_true', Bool.not_eq_false', decide_eq_true_eq, decide_eq_false_iff_not] at h10)
      have h10 : k < rs.length := by omega
      obtain ⟨βr, off, rfl, hβ, hc⟩ := ha.resolve_left (by rintro rfl; simp at h10)
      have hx : rs[k]? = some rs[k] := by simp [h10]
      have htk := ht _ (List.getElem_mem h10)
      ((repeat refine JC.seq ?_); refine JC.skip ?_)
      ((repeat refine Ex.normal_block ?_); refine Ex.next ?_)
      ((repeat refine JC.seq ?_); refine JC.block ?_)
      ((repeat refine JC.seq ?_); refine JC.region ?_)
      refine JL.pure rfl rfl ?_
      refine JL.pure rfl rfl ?_
      refine JL.indexS k rfl rfl Try.underlying50 sh140 rfl h10 rfl ?_
      refine JL.fieldAddr rfl Try.underlying140 rfl sh3 rfl ?_
      refine JL.load rfl sh3 (((hc k _ hx).part 1 rfl 1).grow hβ H.below) rfl ?_
      refine JL.pure rfl rfl ?_
      refine JL.nil ?_
      ((repeat refine Ex.normal_block ?_); refine Ex.next ?_)
      ((repeat refine JC.seq ?_); refine JC.block ?_)
      ((repeat refine JC.seq ?_); refine JC.loop (ι := Int × List (Cell × Bool)) (fun x => [(0, .slice (some ⟨βr, off, none⟩) rs.length cap), (3, .map (some β)), (4, .int .i64 k), (5, .int .i64 x.1)])
        (fun x wr => (rs[k].From ≤ x.1 ∧ (x.1 ≤ rs[k].To ∨ x.1 = rs[k].From)) ∧ MSet x.2 (fun c => hasB (rs.take k) c = true ∨ (rs[k].Y = c.Y ∧ rs[k].From ≤ c.X ∧ c.X < x.1)) ∧ Own w wr [setM β x.2]) (fun x => (rs[k].To - x.1).toNat) (rs[k].From, m) ?_ ?_ ?_)
      · exact ⟨rfl, rfl, rfl, rfl, trivial⟩
      · exact ⟨⟨Int.le_refl _, .inr rfl⟩, hm.congr fun c => ⟨.inl, fun h => h.elim id (fun h => by omega)⟩, H⟩
      · rintro ⟨x, m⟩ wr ⟨⟨hx0, hx1⟩, hm, H⟩
        simp only at hx0 hx1 hm H
        show JC _ _ _ _ [(0, .slice (some ⟨βr, off, none⟩) rs.length cap), (3, .map (some β)), (4, .int .i64 k), (5, .int .i64 x)] _
        ((repeat refine JC.seq ?_); refine JC.region ?_)
        refine JL.pure rfl rfl ?_
        refine JL.pure rfl rfl ?_
        refine JL.pure rfl rfl ?_
        refine JL.indexS k rfl rfl Try.underlying50 sh140 rfl h10 rfl ?_
        refine JL.fieldAddr rfl Try.underlying140 rfl sh3 rfl ?_
        refine JL.load rfl sh3 (((hc k _ hx).part 2 rfl 1).grow hβ H.below) rfl ?_
        refine JL.pure rfl rfl ?_
        refine JL.nil ?_
        ((repeat refine Ex.normal_block ?_); refine Ex.next ?_)
        ((repeat refine JC.seq ?_); refine JC.cond rfl ?_ ?_)
        · intro h24
          (try simp only [Bool.not_eq_true', Bool.not_eq_false', decide_eq_true_eq, decide_eq_false_iff_not] at h24)
          ((repeat refine JC.seq ?_); refine JC.skip ?_)
          ((repeat refine Ex.normal_block ?_); refine Ex.next ?_)
          ((repeat refine JC.seq ?_); refine JC.block ?_)
          ((repeat refine JC.seq ?_); refine JC.region ?_)
          refine JL.pure rfl rfl ?_
          refine JL.pure rfl rfl ?_
          refine JL.pure rfl rfl ?_
          refine JL.pure rfl rfl ?_
          refine JL.indexS k rfl rfl Try.underlying50 sh140 rfl h10 rfl ?_
          refine JL.fieldAddr rfl Try.underlying140 rfl sh3 rfl ?_
          refine JL.load rfl sh3 (((hc k _ hx).part 0 rfl 1).grow hβ H.below) rfl ?_
          refine JL.build s62 rfl rfl ?_
          refine JL.mapUpdate 0 H (⟨x, rs[k].Y⟩ : Cell) true rfl rfl rfl Try.underlying202 keyCell rfl rfl ?_
          intro w1 H
          refine JL.nil ?_
          ((repeat refine Ex.normal_block ?_); refine Ex.next ?_)
          ((repeat refine JC.seq ?_); refine JC.region ?_)
          refine JL.pure rfl rfl ?_
          refine JL.arith rfl (by unfold In64; omega) rfl ?_
          refine JL.pure rfl rfl ?_
          refine JL.nil ?_
          (repeat refine Ex.normal_block ?_)
          refine Ex.again (x + 1, mset m ⟨x, rs[k].Y⟩ true) ⟨rfl, rfl, rfl, rfl, trivial⟩ ⟨⟨by simp only; omega, by simp only; omega⟩, (hm.set ⟨x, rs[k].Y⟩).congr fun c => ?_, H⟩ (by simp only; omega)
          simp only
          rw [cell_eq, or_assoc]
          refine or_congr_right ?_
          omega
        · intro h24
          (try simp only [Bool.not_eq_true', Bool.not_eq_false', decide_eq_true_eq, decide_eq_false_iff_not] at h24)
          ((repeat refine JC.seq ?_); refine JC.exit ?_)
          (repeat (first | refine Ex.exit_then ?_ | refine Ex.exit_miss (by decide) ?_))
          refine Ex.exit_hit ?_
          ((repeat refine Ex.normal_block ?_); refine Ex.next ?_)
          ((repeat refine JC.seq ?_); refine JC.region ?_)
          refine JL.pure rfl rfl ?_
          refine JL.arith rfl (by unfold In64; omega) rfl ?_
          refine JL.pure rfl rfl ?_
          refine JL.nil ?_
          (repeat refine Ex.normal_block ?_)
          refine Ex.again (k + 1, m) ⟨rfl, rfl, rfl, trivial⟩ ⟨h10, hm.congr fun c => ?_, H⟩ (by simp only; omega)
          simp only
          rw [hasB_take h10]
          refine or_congr_right ?_
          omega
    · intro h10
      (try simp only [Bool.not_eq_true', Bool.not_eq_false', decide_eq_true_eq, decide_eq_false_iff_not] at h10)
      have hkk : k = rs.length := by omega
      subst hkk
      rw [List.take_length] at hm
      ((repeat refine JC.seq ?_); refine JC.exit ?_)
      (repeat (first | refine Ex.exit_then ?_ | refine Ex.exit_miss (by decide) ?_))
      refine Ex.exit_hit ?_
      ((repeat refine Ex.normal_block ?_); refine Ex.next ?_)
      ((repeat refine JC.seq ?_); refine JC.region ?_)
      refine JL.pure rfl rfl ?_
      refine JL.pure rfl rfl ?_
      refine JL.nil ?_
      ((repeat refine Ex.normal_block ?_); refine Ex.next ?_)
      ((repeat refine JC.seq ?_); refine JC.ret ?_)
      (repeat (first | refine Ex.ret_then ?_ | refine Ex.ret_block ?_))
      refine Ex.ret1 rfl (.tmp rfl) ⟨β, m, rfl, H, hm⟩
theorem partB_iff {a b : List Run} : partB a b = true ↔ ∀ r ∈ a, ∀ x, r.From ≤ x → x < r.To → hasB b ⟨x, r.Y⟩ = true := by
  unfold partB
  rw [List.all_eq_true]
  constructor
  · intro h r hr x h1 h2
    have h3 := h r hr
    rw [List.all_eq_true] at h3
    have h4 := h3 (x - r.From).toNat (List.mem_range.2 (by omega))
    rwa [show r.From + ((x - r.From).toNat : Int) = x by omega] at h4
  · intro h r hr
    rw [List.all_eq_true]
    intro k hk
    rw [List.mem_range] at hk
    exact h r hr _ (by omega) (by omega)
theorem zero4 : ∀ w, (zeroValue 4).run Try.prog w = .ok (Value.bool false) w := fun w => by
  obtain ⟨z, h1, h2⟩ := tyZero_run (P := Try.prog) (t := 4) (l := [.bool false]) (by kernel_rfl) w
  have : z = .bool false := by
    cases z <;> simp_all [Value.cells]
  rw [h1, this]
theorem part_c (av bv : Value) (a b : List Run) (w : World) (ha : SlR w av a) (hb : SlR w bv b) (hta : Tame a) (htb : Tame b) : Pur Try.prog 44 #[av, bv] w (.bool (partB a b)) := by
  obtain ⟨hlen, aa, cap, rfl, ha⟩ := ha
  refine pur_J (args := [.slice aa a.length cap, bv]) Try.func44 rfl Try.ntmps44 rfl ?_
  have H := Own.start w
  ((repeat refine JC.seq ?_); refine JC.region ?_)
  refine JL.pure rfl rfl ?_
  refine JL.nil ?_
  ((repeat refine Ex.normal_block ?_); refine Ex.next ?_)
  ((repeat refine JC.seq ?_); refine JC.region ?_)
  refine JL.pure rfl rfl ?_
  refine JL.call fb135 rfl rfl (of_c bv b _ (hb.grow H.below) htb) ?_
  rintro _ w1 ⟨β, m, rfl, K, hm⟩
  have H := H.join K
  refine ⟨_, rfl, ?_⟩
  refine JL.pure rfl rfl ?_
  refine JL.nil ?_
  ((repeat refine Ex.normal_block ?_); refine Ex.next ?_)
  ((repeat refine JC.seq ?_); refine JC.region ?_)
  refine JL.pure rfl rfl ?_
  refine JL.nil ?_
  ((repeat refine Ex.normal_block ?_); refine Ex.next ?_)
  ((repeat refine JC.seq ?_); refine JC.block ?_)
  ((repeat refine JC.seq ?_); refine JC.loop (ι := Nat) (fun k => [(0, .slice aa a.length cap), (5, .map (some β)), (6, .int .i64 k)])
    (fun k wr => k ≤ a.length ∧ (∀ (j : Nat) (h : j < a.length), j < k → ∀ x, a[j].From ≤ x → x < a[j].To → hasB b ⟨x, a[j].Y⟩ = true) ∧ Own w wr [setM β m]) (fun k => a.length - k) 0 ?_ ?_ ?_)
  · exact ⟨rfl, rfl, rfl, trivial⟩
  · exact ⟨Nat.zero_le _, fun j _ h => by omega, H⟩
  · rintro k wr ⟨hk, hno, H⟩
    ((repeat refine JC.seq ?_); refine JC.region ?_)
    refine JL.pure rfl rfl ?_
    refine JL.pure rfl rfl ?_
    refine JL.len rfl Try.underlying50 rfl ?_
    refine JL.pure rfl rfl ?_
    refine JL.nil ?_
    ((repeat refine Ex.normal_block ?_); refine Ex.next ?_)
    ((repeat refine JC.seq ?_); refine JC.cond rfl ?_ ?_)
    · intro h13
      (try simp only [Bool.not_eq_true', Bool.not_eq_false', decide_eq_true_eq, decide_eq_false_iff_not] at h13)
      have h13 : k < a.length := by omega
      obtain ⟨βr, off, rfl, hβ, hc⟩ := ha.resolve_left (by rintro rfl; simp at h13)
      have hx : a[k]? = some a[k] := by simp [h13]
      have htk := hta _ (List.getElem_mem h13)
      ((repeat refine JC.seq ?_); refine JC.skip ?_)
      ((repeat refine Ex.normal_block ?_); refine Ex.next ?_)
      ((repeat refine JC.seq ?_); refine JC.block ?_)
      ((repeat refine JC.seq ?_); refine JC.region ?_)
      refine JL.pure rfl rfl ?_
      refine JL.pure rfl rfl ?_
      refine JL.indexS k rfl rfl Try.underlying50 sh140 rfl h13 rfl ?_
      refine JL.fieldAddr rfl Try.underlying140 rfl sh3 rfl ?_
      refine JL.load rfl sh3 (((hc k _ hx).part 1 rfl 1).grow hβ H.below) rfl ?_
      refine JL.pure rfl rfl ?_
      refine JL.nil ?_
      ((repeat refine Ex.normal_block ?_); refine Ex.next ?_)
      ((repeat refine JC.seq ?_); refine JC.block ?_)
      ((repeat refine JC.seq ?_); refine JC.loop (ι := Int) (fun x => [(0, .slice (some ⟨βr, off, none⟩) a.length cap), (5, .map (some β)), (6, .int .i64 k), (7, .int .i64 x)])
        (fun x wr => (a[k].From ≤ x ∧ (x ≤ a[k].To ∨ x = a[k].From)) ∧ (∀ y, a[k].From ≤ y → y < x → hasB b ⟨y, a[k].Y⟩ = true) ∧ Own w wr [setM β m]) (fun x => (a[k].To - x).toNat) a[k].From ?_ ?_ ?_)
      · exact ⟨rfl, rfl, rfl, rfl, trivial⟩
      · exact ⟨⟨Int.le_refl _, .inr rfl⟩, fun y h1 h2 => by omega, H⟩
      · rintro x wr ⟨⟨hx0, hx1⟩, hin, H⟩
        ((repeat refine JC.seq ?_); refine JC.region ?_)
        refine JL.pure rfl rfl ?_
        refine JL.pure rfl rfl ?_
        refine JL.pure rfl rfl ?_
        refine JL.indexS k rfl rfl Try.underlying50 sh140 rfl h13 rfl ?_
        refine JL.fieldAddr rfl Try.underlying140 rfl sh3 rfl ?_
        refine JL.load rfl sh3 (((hc k _ hx).part 2 rfl 1).grow hβ H.below) rfl ?_
        refine JL.pure rfl rfl ?_
        refine JL.nil ?_
        ((repeat refine Ex.normal_block ?_); refine Ex.next ?_)
        ((repeat refine JC.seq ?_); refine JC.cond rfl ?_ ?_)
        · intro h27
          (try simp only [Bool.not_eq_true', Bool.not_eq_false', decide_eq_true_eq, decide_eq_false_iff_not] at h27)
          ((repeat refine JC.seq ?_); refine JC.skip ?_)
          ((repeat refine Ex.normal_block ?_); refine Ex.next ?_)
          ((repeat refine JC.seq ?_); refine JC.block ?_)
          ((repeat refine JC.seq ?_); refine JC.region ?_)
          refine JL.pure rfl rfl ?_
          refine JL.pure rfl rfl ?_
          refine JL.pure rfl rfl ?_
          refine JL.pure rfl rfl ?_
          refine JL.indexS k rfl rfl Try.underlying50 sh140 rfl h13 rfl ?_
          refine JL.fieldAddr rfl Try.underlying140 rfl sh3 rfl ?_
          refine JL.load rfl sh3 (((hc k _ hx).part 0 rfl 1).grow hβ H.below) rfl ?_
          refine JL.build s62 rfl rfl ?_
          refine JL.lookupM 0 H (⟨x, a[k].Y⟩ : Cell) false rfl rfl rfl Try.underlying202 keyCell zero4 rfl ?_
          show JL _ _ _ _ _ (Fr.put _ (Value.bool ((mget m ⟨x, a[k].Y⟩).getD false)) _) _
          refine JL.pure rfl rfl ?_
          refine JL.nil ?_
          ((repeat refine Ex.normal_block ?_); refine Ex.next ?_)
          ((repeat refine JC.seq ?_); refine JC.cond rfl ?_ ?_)
          · intro h39
            (try simp only [Bool.not_eq_true', Bool.not_eq_false', decide_eq_true_eq, decide_eq_false_iff_not] at h39)
            
            ((repeat refine JC.seq ?_); refine JC.region ?_)
            refine JL.pure rfl rfl ?_
            refine JL.nil ?_
            ((repeat refine Ex.normal_block ?_); refine Ex.next ?_)
            ((repeat refine JC.seq ?_); refine JC.ret ?_)
            (repeat (first | refine Ex.ret_then ?_ | refine Ex.ret_block ?_))
            refine Ex.ret1 rfl (.tmp rfl) ⟨?_, H.below⟩
            have : partB a b = false := by
              rw [← Bool.not_eq_true, partB_iff]
              intro h
              have h1 := (hm _).2 (h _ (List.getElem_mem h13) x hx0 (by omega))
              rw [h1] at h39
              simp at h39
            rw [this]
          · intro h39
            (try simp only [Bool.not_eq_true', Bool.not_eq_false', decide_eq_true_eq, decide_eq_false_iff_not] at h39)
            have h39 : (mget m ⟨x, a[k].Y⟩).getD false = true := by simpa using h39
            ((repeat refine JC.seq ?_); refine JC.skip ?_)
            ((repeat refine Ex.normal_block ?_); refine Ex.next ?_)
            ((repeat refine JC.seq ?_); refine JC.region ?_)
            refine JL.pure rfl rfl ?_
            refine JL.arith rfl (by unfold In64; omega) rfl ?_
            refine JL.pure rfl rfl ?_
            refine JL.nil ?_
            (repeat refine Ex.normal_block ?_)
            refine Ex.again (x + 1) ⟨rfl, rfl, rfl, rfl, trivial⟩ ⟨⟨by omega, by omega⟩, fun y h1 h2 => ?_, H⟩ (by omega)
            by_cases hyx : y = x
            · subst hyx; exact (hm _).1 h39
            · exact hin y h1 (by omega)
        · intro h27
          (try simp only [Bool.not_eq_true', Bool.not_eq_false', decide_eq_true_eq, decide_eq_false_iff_not] at h27)
          ((repeat refine JC.seq ?_); refine JC.exit ?_)
          (repeat (first | refine Ex.exit_then ?_ | refine Ex.exit_miss (by decide) ?_))
          refine Ex.exit_hit ?_
          ((repeat refine Ex.normal_block ?_); refine Ex.next ?_)
          ((repeat refine JC.seq ?_); refine JC.region ?_)
          refine JL.pure rfl rfl ?_
          refine JL.arith rfl (by unfold In64; omega) rfl ?_
          refine JL.pure rfl rfl ?_
          refine JL.nil ?_
          (repeat refine Ex.normal_block ?_)
          refine Ex.again (k + 1) ⟨rfl, rfl, rfl, trivial⟩ ⟨h13, fun j h hj y hy1 hy2 => ?_, H⟩ (by omega)
          by_cases hjk : j = k
          · subst hjk; exact hin y hy1 (by omega)
          · exact hno j h (by omega) y hy1 hy2
    · intro h13
      (try simp only [Bool.not_eq_true', Bool.not_eq_false', decide_eq_true_eq, decide_eq_false_iff_not] at h13)
      
      ((repeat refine JC.seq ?_); refine JC.exit ?_)
      (repeat (first | refine Ex.exit_then ?_ | refine Ex.exit_miss (by decide) ?_))
      refine Ex.exit_hit ?_
      ((repeat refine Ex.normal_block ?_); refine Ex.next ?_)
      ((repeat refine JC.seq ?_); refine JC.region ?_)
      refine JL.pure rfl rfl ?_
      refine JL.nil ?_
      ((repeat refine Ex.normal_block ?_); refine Ex.next ?_)
      ((repeat refine JC.seq ?_); refine JC.ret ?_)
      (repeat (first | refine Ex.ret_then ?_ | refine Ex.ret_block ?_))
      refine Ex.ret1 rfl (.tmp rfl) ⟨?_, H.below⟩
      have : partB a b = true := partB_iff.2 fun r hr x h1 h2 => by
        obtain ⟨j, hj, rfl⟩ := List.getElem_of_mem hr
        exact hno j hj (by omega) x h1 h2
      rw [this]
end Go.J
