/-
  Lemmas for the statements of this seat; no statement is proved here. No condition.
-/
import Derived.Test.YtfbmgmdjaoackaaG1
namespace Go.J
open Go.RowKit Go.Proofs
set_option maxRecDepth 8000
set_option linter.unusedSimpArgs false
set_option linter.unusedVariables false

theorem index_run (v : Value) (xs : List Run) (p : Run → Bool) (f : FuncId) (capt : List Value) (w : World) (hb : hasBody Try.prog f = true) (hv : Sl Run.ev (true, 3) w v xs)
    (hp : ∀ w', Below w.heap.size w w' → ∀ x, x ∈ xs → Pur Try.prog f ([Run.ev x] ++ capt).toArray w' (.bool (p x))) :
    Pur Try.prog 220 #[v, .func (.func f) #[] ⟨capt⟩] w (.int .i64 (if xs.any p then (xs.findIdx p : Int) else -1)) := by
  obtain ⟨hlen, a, cap, rfl, ha⟩ := hv
  refine pur_J (args := [.slice a xs.length cap, .func (.func f) #[] ⟨capt⟩]) Try.func220 rfl Try.ntmps220 rfl ?_
  have H := Own.start w
  ((repeat refine JC.seq ?_); refine JC.region ?_)
  refine JL.pure rfl rfl ?_
  refine JL.nil ?_
  ((repeat refine Ex.normal_block ?_); refine Ex.next ?_)
  ((repeat refine JC.seq ?_); refine JC.region ?_)
  refine JL.pure rfl rfl ?_
  refine JL.len rfl Try.underlying50 rfl ?_
  refine JL.pure rfl rfl ?_
  refine JL.nil ?_
  ((repeat refine Ex.normal_block ?_); refine Ex.next ?_)
  ((repeat refine JC.seq ?_); refine JC.block ?_)
  ((repeat refine JC.seq ?_); refine JC.loop (ι := Nat) (fun k => [(0, .slice a xs.length cap), (1, .func (.func f) #[] ⟨capt⟩), (7, .int .i64 xs.length), (8, .int .i64 k)])
    (fun k wr => k ≤ xs.length ∧ (∀ (j : Nat) (h : j < xs.length), j < k → p xs[j] = false) ∧ Own w wr [])
    (fun k => xs.length - k) 0 ?_ ?_ ?_)
  · exact ⟨rfl, rfl, rfl, rfl, trivial⟩
  · exact ⟨Nat.zero_le _, fun j _ h => by omega, H⟩
  · rintro k wr ⟨hk, hno, H⟩
    ((repeat refine JC.seq ?_); refine JC.region ?_)
    refine JL.pure rfl rfl ?_
    refine JL.nil ?_
    ((repeat refine Ex.normal_block ?_); refine Ex.next ?_)
    ((repeat refine JC.seq ?_); refine JC.cond rfl ?_ ?_)
    · intro h9
      (try simp only [Bool.not_eq_true', Bool.not_eq_false', decide_eq_true_eq, decide_eq_false_iff_not] at h9)
      have h9 : k < xs.length := by omega
      obtain ⟨β, off, rfl, hβ, hc⟩ := ha.resolve_left (by rintro rfl; simp at h9)
      have hx : xs[k]? = some xs[k] := by simp [h9]
      ((repeat refine JC.seq ?_); refine JC.skip ?_)
      ((repeat refine Ex.normal_block ?_); refine Ex.next ?_)
      ((repeat refine JC.seq ?_); refine JC.block ?_)
      ((repeat refine JC.seq ?_); refine JC.region ?_)
      refine JL.pure rfl rfl ?_
      refine JL.pure rfl rfl ?_
      refine JL.nil ?_
      ((repeat refine Ex.normal_block ?_); refine Ex.next ?_)
      ((repeat refine JC.seq ?_); refine JC.region ?_)
      refine JL.pure rfl rfl ?_
      refine JL.pure rfl rfl ?_
      refine JL.pure rfl rfl ?_
      refine JL.indexS k rfl rfl Try.underlying50 sh140 rfl h9 rfl ?_
      refine JL.load rfl sh140 ((hc k _ hx).grow hβ H.below) rfl ?_
      refine JL.callvP H rfl hb rfl rfl (hp _ H.below _ (List.getElem_mem h9)) ?_
      intro w1 H _
      refine JL.nil ?_
      ((repeat refine Ex.normal_block ?_); refine Ex.next ?_)
      ((repeat refine JC.seq ?_); refine JC.cond rfl ?_ ?_)
      · intro h16
        (try simp only [Bool.not_eq_true', Bool.not_eq_false', decide_eq_true_eq, decide_eq_false_iff_not] at h16)
        ((repeat refine JC.seq ?_); refine JC.region ?_)
        refine JL.pure rfl rfl ?_
        refine JL.pure rfl rfl ?_
        refine JL.nil ?_
        ((repeat refine Ex.normal_block ?_); refine Ex.next ?_)
        ((repeat refine JC.seq ?_); refine JC.ret ?_)
        (repeat (first | refine Ex.ret_then ?_ | refine Ex.ret_block ?_))
        refine Ex.ret1 rfl (.tmp rfl) ⟨?_, H.below⟩
        rw [if_pos (List.any_eq_true.2 ⟨_, List.getElem_mem h9, h16⟩), (List.findIdx_eq h9).2 ⟨h16, fun j hj => hno j (by omega) hj⟩]
      · intro h16
        (try simp only [Bool.not_eq_true', Bool.not_eq_false', decide_eq_true_eq, decide_eq_false_iff_not] at h16)
        ((repeat refine JC.seq ?_); refine JC.skip ?_)
        ((repeat refine Ex.normal_block ?_); refine Ex.next ?_)
        ((repeat refine JC.seq ?_); refine JC.region ?_)
        refine JL.arith rfl (by unfold In64; omega) rfl ?_
        refine JL.pure rfl rfl ?_
        refine JL.nil ?_
        (repeat refine Ex.normal_block ?_)
        refine Ex.again (k + 1) ⟨rfl, rfl, rfl, rfl, trivial⟩ ⟨h9, fun j h hj => ?_, H⟩ (by omega)
        by_cases hjk : j = k
        · subst hjk; exact h16
        · exact hno j h (by omega)
    · intro h9
      (try simp only [Bool.not_eq_true', Bool.not_eq_false', decide_eq_true_eq, decide_eq_false_iff_not] at h9)
      
      ((repeat refine JC.seq ?_); refine JC.exit ?_)
      (repeat (first | refine Ex.exit_then ?_ | refine Ex.exit_miss (by decide) ?_))
      refine Ex.exit_hit ?_
      ((repeat refine Ex.normal_block ?_); refine Ex.next ?_)
      ((repeat refine JC.seq ?_); refine JC.region ?_)
      refine JL.pure rfl rfl ?_
      refine JL.nil ?_
      ((repeat refine Ex.normal_block ?_); refine Ex.next ?_)
      ((repeat refine JC.seq ?_); refine JC.ret ?_)
      (repeat (first | refine Ex.ret_then ?_ | refine Ex.ret_block ?_))
      refine Ex.ret1 rfl (.tmp rfl) ⟨?_, H.below⟩
      rw [if_neg]
      intro hh
      obtain ⟨x, hx, hpx⟩ := List.any_eq_true.1 hh
      obtain ⟨j, hj, rfl⟩ := List.getElem_of_mem hx
      rw [hno j hj (by omega)] at hpx
      cases hpx
theorem contains_run (v : Value) (xs : List Run) (p : Run → Bool) (f : FuncId) (capt : List Value) (w : World) (hb : hasBody Try.prog f = true) (hv : Sl Run.ev (true, 3) w v xs)
    (hp : ∀ w', Below w.heap.size w w' → ∀ x, x ∈ xs → Pur Try.prog f ([Run.ev x] ++ capt).toArray w' (.bool (p x))) :
    Pur Try.prog 136 #[v, .func (.func f) #[] ⟨capt⟩] w (.bool (xs.any p)) := by
  refine pur_J (args := [v, .func (.func f) #[] ⟨capt⟩]) Try.func136 rfl Try.ntmps136 rfl ?_
  have H := Own.start w
  ((repeat refine JC.seq ?_); refine JC.region ?_)
  refine JL.pure rfl rfl ?_
  refine JL.nil ?_
  ((repeat refine Ex.normal_block ?_); refine Ex.next ?_)
  ((repeat refine JC.seq ?_); refine JC.region ?_)
  refine JL.pure rfl rfl ?_
  refine JL.pure rfl rfl ?_
  refine JL.callP H fb220 rfl rfl (index_run v xs p f capt _ hb (hv.grow H.below) (fun w2 h2 => hp _ (by have h1 := H.below; exact h1.trans (h2.mono h1.size)))) ?_
  intro w1 H _
  refine JL.pure rfl rfl ?_
  refine JL.pure rfl rfl ?_
  refine JL.nil ?_
  ((repeat refine Ex.normal_block ?_); refine Ex.next ?_)
  ((repeat refine JC.seq ?_); refine JC.ret ?_)
  (repeat (first | refine Ex.ret_then ?_ | refine Ex.ret_block ?_))
  refine Ex.ret1 rfl (.tmp rfl) ⟨?_, H.below⟩
  by_cases h : xs.any p = true
  · rw [if_pos h, h]; simp
  · rw [if_neg h, Bool.eq_false_iff.2 h]; rfl


theorem index_rows (v : Value) (xs : List (Value × List Run)) (p : (Value × List Run) → Bool) (f : FuncId) (capt : List Value) (w : World) (hb : hasBody Try.prog f = true) (hv : Sl Prod.fst (false, 1) w v xs)
    (hp : ∀ w', Below w.heap.size w w' → ∀ x, x ∈ xs → Pur Try.prog f ([Prod.fst x] ++ capt).toArray w' (.bool (p x))) :
    Pur Try.prog 274 #[v, .func (.func f) #[] ⟨capt⟩] w (.int .i64 (if xs.any p then (xs.findIdx p : Int) else -1)) := by
  obtain ⟨hlen, a, cap, rfl, ha⟩ := hv
  refine pur_J (args := [.slice a xs.length cap, .func (.func f) #[] ⟨capt⟩]) Try.func274 rfl Try.ntmps274 rfl ?_
  have H := Own.start w
  ((repeat refine JC.seq ?_); refine JC.region ?_)
  refine JL.pure rfl rfl ?_
  refine JL.nil ?_
  ((repeat refine Ex.normal_block ?_); refine Ex.next ?_)
  ((repeat refine JC.seq ?_); refine JC.region ?_)
  refine JL.pure rfl rfl ?_
  refine JL.len rfl Try.underlying134 rfl ?_
  refine JL.pure rfl rfl ?_
  refine JL.nil ?_
  ((repeat refine Ex.normal_block ?_); refine Ex.next ?_)
  ((repeat refine JC.seq ?_); refine JC.block ?_)
  ((repeat refine JC.seq ?_); refine JC.loop (ι := Nat) (fun k => [(0, .slice a xs.length cap), (1, .func (.func f) #[] ⟨capt⟩), (7, .int .i64 xs.length), (8, .int .i64 k)])
    (fun k wr => k ≤ xs.length ∧ (∀ (j : Nat) (h : j < xs.length), j < k → p xs[j] = false) ∧ Own w wr [])
    (fun k => xs.length - k) 0 ?_ ?_ ?_)
  · exact ⟨rfl, rfl, rfl, rfl, trivial⟩
  · exact ⟨Nat.zero_le _, fun j _ h => by omega, H⟩
  · rintro k wr ⟨hk, hno, H⟩
    ((repeat refine JC.seq ?_); refine JC.region ?_)
    refine JL.pure rfl rfl ?_
    refine JL.nil ?_
    ((repeat refine Ex.normal_block ?_); refine Ex.next ?_)
    ((repeat refine JC.seq ?_); refine JC.cond rfl ?_ ?_)
    · intro h9
      (try simp only [Bool.not_eq_true', Bool.not_eq_false', decide_eq_true_eq, decide_eq_false_iff_not] at h9)
      have h9 : k < xs.length := by omega
      obtain ⟨β, off, rfl, hβ, hc⟩ := ha.resolve_left (by rintro rfl; simp at h9)
      have hx : xs[k]? = some xs[k] := by simp [h9]
      ((repeat refine JC.seq ?_); refine JC.skip ?_)
      ((repeat refine Ex.normal_block ?_); refine Ex.next ?_)
      ((repeat refine JC.seq ?_); refine JC.block ?_)
      ((repeat refine JC.seq ?_); refine JC.region ?_)
      refine JL.pure rfl rfl ?_
      refine JL.pure rfl rfl ?_
      refine JL.nil ?_
      ((repeat refine Ex.normal_block ?_); refine Ex.next ?_)
      ((repeat refine JC.seq ?_); refine JC.region ?_)
      refine JL.pure rfl rfl ?_
      refine JL.pure rfl rfl ?_
      refine JL.pure rfl rfl ?_
      refine JL.indexS k rfl rfl Try.underlying134 sh50 rfl h9 rfl ?_
      refine JL.load rfl sh50 ((hc k _ hx).grow hβ H.below) rfl ?_
      refine JL.callvP H rfl hb rfl rfl (hp _ H.below _ (List.getElem_mem h9)) ?_
      intro w1 H _
      refine JL.nil ?_
      ((repeat refine Ex.normal_block ?_); refine Ex.next ?_)
      ((repeat refine JC.seq ?_); refine JC.cond rfl ?_ ?_)
      · intro h16
        (try simp only [Bool.not_eq_true', Bool.not_eq_false', decide_eq_true_eq, decide_eq_false_iff_not] at h16)
        ((repeat refine JC.seq ?_); refine JC.region ?_)
        refine JL.pure rfl rfl ?_
        refine JL.pure rfl rfl ?_
        refine JL.nil ?_
        ((repeat refine Ex.normal_block ?_); refine Ex.next ?_)
        ((repeat refine JC.seq ?_); refine JC.ret ?_)
        (repeat (first | refine Ex.ret_then ?_ | refine Ex.ret_block ?_))
        refine Ex.ret1 rfl (.tmp rfl) ⟨?_, H.below⟩
        rw [if_pos (List.any_eq_true.2 ⟨_, List.getElem_mem h9, h16⟩), (List.findIdx_eq h9).2 ⟨h16, fun j hj => hno j (by omega) hj⟩]
      · intro h16
        (try simp only [Bool.not_eq_true', Bool.not_eq_false', decide_eq_true_eq, decide_eq_false_iff_not] at h16)
        ((repeat refine JC.seq ?_); refine JC.skip ?_)
        ((repeat refine Ex.normal_block ?_); refine Ex.next ?_)
        ((repeat refine JC.seq ?_); refine JC.region ?_)
        refine JL.arith rfl (by unfold In64; omega) rfl ?_
        refine JL.pure rfl rfl ?_
        refine JL.nil ?_
        (repeat refine Ex.normal_block ?_)
        refine Ex.again (k + 1) ⟨rfl, rfl, rfl, rfl, trivial⟩ ⟨h9, fun j h hj => ?_, H⟩ (by omega)
        by_cases hjk : j = k
        · subst hjk; exact h16
        · exact hno j h (by omega)
    · intro h9
      (try simp only [Bool.not_eq_true', Bool.not_eq_false', decide_eq_true_eq, decide_eq_false_iff_not] at h9)
      
      ((repeat refine JC.seq ?_); refine JC.exit ?_)
      (repeat (first | refine Ex.exit_then ?_ | refine Ex.exit_miss (by decide) ?_))
      refine Ex.exit_hit ?_
      ((repeat refine Ex.normal_block ?_); refine Ex.next ?_)
      ((repeat refine JC.seq ?_); refine JC.region ?_)
      refine JL.pure rfl rfl ?_
      refine JL.nil ?_
      ((repeat refine Ex.normal_block ?_); refine Ex.next ?_)
      ((repeat refine JC.seq ?_); refine JC.ret ?_)
      (repeat (first | refine Ex.ret_then ?_ | refine Ex.ret_block ?_))
      refine Ex.ret1 rfl (.tmp rfl) ⟨?_, H.below⟩
      rw [if_neg]
      intro hh
      obtain ⟨x, hx, hpx⟩ := List.any_eq_true.1 hh
      obtain ⟨j, hj, rfl⟩ := List.getElem_of_mem hx
      rw [hno j hj (by omega)] at hpx
      cases hpx
theorem contains_rows (v : Value) (xs : List (Value × List Run)) (p : (Value × List Run) → Bool) (f : FuncId) (capt : List Value) (w : World) (hb : hasBody Try.prog f = true) (hv : Sl Prod.fst (false, 1) w v xs)
    (hp : ∀ w', Below w.heap.size w w' → ∀ x, x ∈ xs → Pur Try.prog f ([Prod.fst x] ++ capt).toArray w' (.bool (p x))) :
    Pur Try.prog 214 #[v, .func (.func f) #[] ⟨capt⟩] w (.bool (xs.any p)) := by
  refine pur_J (args := [v, .func (.func f) #[] ⟨capt⟩]) Try.func214 rfl Try.ntmps214 rfl ?_
  have H := Own.start w
  ((repeat refine JC.seq ?_); refine JC.region ?_)
  refine JL.pure rfl rfl ?_
  refine JL.nil ?_
  ((repeat refine Ex.normal_block ?_); refine Ex.next ?_)
  ((repeat refine JC.seq ?_); refine JC.region ?_)
  refine JL.pure rfl rfl ?_
  refine JL.pure rfl rfl ?_
  refine JL.callP H fb274 rfl rfl (index_rows v xs p f capt _ hb (hv.grow H.below) (fun w2 h2 => hp _ (by have h1 := H.below; exact h1.trans (h2.mono h1.size)))) ?_
  intro w1 H _
  refine JL.pure rfl rfl ?_
  refine JL.pure rfl rfl ?_
  refine JL.nil ?_
  ((repeat refine Ex.normal_block ?_); refine Ex.next ?_)
  ((repeat refine JC.seq ?_); refine JC.ret ?_)
  (repeat (first | refine Ex.ret_then ?_ | refine Ex.ret_block ?_))
  refine Ex.ret1 rfl (.tmp rfl) ⟨?_, H.below⟩
  by_cases h : xs.any p = true
  · rw [if_pos h, h]; simp
  · rw [if_neg h, Bool.eq_false_iff.2 h]; rfl


theorem index_spot (v : Value) (xs : List Spot) (p : Spot → Bool) (f : FuncId) (capt : List Value) (w : World) (hb : hasBody Try.prog f = true) (hv : Sl Spot.ev (true, 2) w v xs)
    (hp : ∀ w', Below w.heap.size w w' → ∀ x, x ∈ xs → Pur Try.prog f ([Spot.ev x] ++ capt).toArray w' (.bool (p x))) :
    Pur Try.prog 273 #[v, .func (.func f) #[] ⟨capt⟩] w (.int .i64 (if xs.any p then (xs.findIdx p : Int) else -1)) := by
  obtain ⟨hlen, a, cap, rfl, ha⟩ := hv
  refine pur_J (args := [.slice a xs.length cap, .func (.func f) #[] ⟨capt⟩]) Try.func273 rfl Try.ntmps273 rfl ?_
  have H := Own.start w
  ((repeat refine JC.seq ?_); refine JC.region ?_)
  refine JL.pure rfl rfl ?_
  refine JL.nil ?_
  ((repeat refine Ex.normal_block ?_); refine Ex.next ?_)
  ((repeat refine JC.seq ?_); refine JC.region ?_)
  refine JL.pure rfl rfl ?_
  refine JL.len rfl Try.underlying27 rfl ?_
  refine JL.pure rfl rfl ?_
  refine JL.nil ?_
  ((repeat refine Ex.normal_block ?_); refine Ex.next ?_)
  ((repeat refine JC.seq ?_); refine JC.block ?_)
  ((repeat refine JC.seq ?_); refine JC.loop (ι := Nat) (fun k => [(0, .slice a xs.length cap), (1, .func (.func f) #[] ⟨capt⟩), (7, .int .i64 xs.length), (8, .int .i64 k)])
    (fun k wr => k ≤ xs.length ∧ (∀ (j : Nat) (h : j < xs.length), j < k → p xs[j] = false) ∧ Own w wr [])
    (fun k => xs.length - k) 0 ?_ ?_ ?_)
  · exact ⟨rfl, rfl, rfl, rfl, trivial⟩
  · exact ⟨Nat.zero_le _, fun j _ h => by omega, H⟩
  · rintro k wr ⟨hk, hno, H⟩
    ((repeat refine JC.seq ?_); refine JC.region ?_)
    refine JL.pure rfl rfl ?_
    refine JL.nil ?_
    ((repeat refine Ex.normal_block ?_); refine Ex.next ?_)
    ((repeat refine JC.seq ?_); refine JC.cond rfl ?_ ?_)
    · intro h9
      (try simp only [Bool.not_eq_true', Bool.not_eq_false', decide_eq_true_eq, decide_eq_false_iff_not] at h9)
      have h9 : k < xs.length := by omega
      obtain ⟨β, off, rfl, hβ, hc⟩ := ha.resolve_left (by rintro rfl; simp at h9)
      have hx : xs[k]? = some xs[k] := by simp [h9]
      ((repeat refine JC.seq ?_); refine JC.skip ?_)
      ((repeat refine Ex.normal_block ?_); refine Ex.next ?_)
      ((repeat refine JC.seq ?_); refine JC.block ?_)
      ((repeat refine JC.seq ?_); refine JC.region ?_)
      refine JL.pure rfl rfl ?_
      refine JL.pure rfl rfl ?_
      refine JL.nil ?_
      ((repeat refine Ex.normal_block ?_); refine Ex.next ?_)
      ((repeat refine JC.seq ?_); refine JC.region ?_)
      refine JL.pure rfl rfl ?_
      refine JL.pure rfl rfl ?_
      refine JL.pure rfl rfl ?_
      refine JL.indexS k rfl rfl Try.underlying27 sh23 rfl h9 rfl ?_
      refine JL.load rfl sh23 ((hc k _ hx).grow hβ H.below) rfl ?_
      refine JL.callvP H rfl hb rfl rfl (hp _ H.below _ (List.getElem_mem h9)) ?_
      intro w1 H _
      refine JL.nil ?_
      ((repeat refine Ex.normal_block ?_); refine Ex.next ?_)
      ((repeat refine JC.seq ?_); refine JC.cond rfl ?_ ?_)
      · intro h16
        (try simp only [Bool.not_eq_true', Bool.not_eq_false', decide_eq_true_eq, decide_eq_false_iff_not] at h16)
        ((repeat refine JC.seq ?_); refine JC.region ?_)
        refine JL.pure rfl rfl ?_
        refine JL.pure rfl rfl ?_
        refine JL.nil ?_
        ((repeat refine Ex.normal_block ?_); refine Ex.next ?_)
        ((repeat refine JC.seq ?_); refine JC.ret ?_)
        (repeat (first | refine Ex.ret_then ?_ | refine Ex.ret_block ?_))
        refine Ex.ret1 rfl (.tmp rfl) ⟨?_, H.below⟩
        rw [if_pos (List.any_eq_true.2 ⟨_, List.getElem_mem h9, h16⟩), (List.findIdx_eq h9).2 ⟨h16, fun j hj => hno j (by omega) hj⟩]
      · intro h16
        (try simp only [Bool.not_eq_true', Bool.not_eq_false', decide_eq_true_eq, decide_eq_false_iff_not] at h16)
        ((repeat refine JC.seq ?_); refine JC.skip ?_)
        ((repeat refine Ex.normal_block ?_); refine Ex.next ?_)
        ((repeat refine JC.seq ?_); refine JC.region ?_)
        refine JL.arith rfl (by unfold In64; omega) rfl ?_
        refine JL.pure rfl rfl ?_
        refine JL.nil ?_
        (repeat refine Ex.normal_block ?_)
        refine Ex.again (k + 1) ⟨rfl, rfl, rfl, rfl, trivial⟩ ⟨h9, fun j h hj => ?_, H⟩ (by omega)
        by_cases hjk : j = k
        · subst hjk; exact h16
        · exact hno j h (by omega)
    · intro h9
      (try simp only [Bool.not_eq_true', Bool.not_eq_false', decide_eq_true_eq, decide_eq_false_iff_not] at h9)
      
      ((repeat refine JC.seq ?_); refine JC.exit ?_)
      (repeat (first | refine Ex.exit_then ?_ | refine Ex.exit_miss (by decide) ?_))
      refine Ex.exit_hit ?_
      ((repeat refine Ex.normal_block ?_); refine Ex.next ?_)
      ((repeat refine JC.seq ?_); refine JC.region ?_)
      refine JL.pure rfl rfl ?_
      refine JL.nil ?_
      ((repeat refine Ex.normal_block ?_); refine Ex.next ?_)
      ((repeat refine JC.seq ?_); refine JC.ret ?_)
      (repeat (first | refine Ex.ret_then ?_ | refine Ex.ret_block ?_))
      refine Ex.ret1 rfl (.tmp rfl) ⟨?_, H.below⟩
      rw [if_neg]
      intro hh
      obtain ⟨x, hx, hpx⟩ := List.any_eq_true.1 hh
      obtain ⟨j, hj, rfl⟩ := List.getElem_of_mem hx
      rw [hno j hj (by omega)] at hpx
      cases hpx
theorem contains_spot (v : Value) (xs : List Spot) (p : Spot → Bool) (f : FuncId) (capt : List Value) (w : World) (hb : hasBody Try.prog f = true) (hv : Sl Spot.ev (true, 2) w v xs)
    (hp : ∀ w', Below w.heap.size w w' → ∀ x, x ∈ xs → Pur Try.prog f ([Spot.ev x] ++ capt).toArray w' (.bool (p x))) :
    Pur Try.prog 206 #[v, .func (.func f) #[] ⟨capt⟩] w (.bool (xs.any p)) := by
  refine pur_J (args := [v, .func (.func f) #[] ⟨capt⟩]) Try.func206 rfl Try.ntmps206 rfl ?_
  have H := Own.start w
  ((repeat refine JC.seq ?_); refine JC.region ?_)
  refine JL.pure rfl rfl ?_
  refine JL.nil ?_
  ((repeat refine Ex.normal_block ?_); refine Ex.next ?_)
  ((repeat refine JC.seq ?_); refine JC.region ?_)
  refine JL.pure rfl rfl ?_
  refine JL.pure rfl rfl ?_
  refine JL.callP H fb273 rfl rfl (index_spot v xs p f capt _ hb (hv.grow H.below) (fun w2 h2 => hp _ (by have h1 := H.below; exact h1.trans (h2.mono h1.size)))) ?_
  intro w1 H _
  refine JL.pure rfl rfl ?_
  refine JL.pure rfl rfl ?_
  refine JL.nil ?_
  ((repeat refine Ex.normal_block ?_); refine Ex.next ?_)
  ((repeat refine JC.seq ?_); refine JC.ret ?_)
  (repeat (first | refine Ex.ret_then ?_ | refine Ex.ret_block ?_))
  refine Ex.ret1 rfl (.tmp rfl) ⟨?_, H.below⟩
  by_cases h : xs.any p = true
  · rw [if_pos h, h]; simp
  · rw [if_neg h, Bool.eq_false_iff.2 h]; rfl

end Go.J
