/-
  Lemmas for the statements of this seat; no statement is proved here. No condition.
-/
import Derived.Test.YtfbmgmdjaoackaaM6
namespace Go.J
open Go.RowKit Go.Proofs
set_option maxRecDepth 8000
set_option linter.unusedSimpArgs false
set_option linter.unusedVariables false
section
variable {P : Program} {N : Sz} {ops : Array Oper} {Q : Exit → Act → World → Prop} {rest : List Oper} {fr : Fr} {w w0 : World} {L : List HP}
  {d : Option Tmp} {ty : TypeId} {pos : String} {af : Array Edge}
/-- append of a slice to a row of ours -/
theorem JL.appendSl {α : Type} {s x : Operand} {t e : TypeId} {v xv : Value} {sz bytes : Nat} {enc : α → List Value} {l0 l : List α} (j : Nat) (H : Own w0 w L) (he : ∀ x, (enc x).length = sz) (h0 : 0 < sz) (ht : P.underlying t = some (.slice e)) (ha : tyApp P e = some (sz, bytes))
    (hs : fr.ev s = some v) (hx : fr.ev x = some xv) (hsl : Sl (fun x => .agg ⟨enc x⟩) (true, sz) w xv l) (hi : L[j]? = some (trow e sz enc v l0)) (h1 : allOne (l.flatMap enc) = true) (hb : (l0.length + l.length) * bytes ≤ 140737488355328)
    (h63 : l0.length + l.length ≤ 9223372036854775807) (hd : Fr.fits N d = true) (k : ∀ v' w', Own w0 w' (L.set j (trow e sz enc v' (l0 ++ l))) → JL P N ops Q rest (fr.put d v') w') :
    JL P N ops Q (⟨d, .call ⟨.builtin .append, #[s, x], #[t, t]⟩, ty, pos, af, none⟩ :: rest) fr w := by
  obtain ⟨hn, a, c, rfl, h⟩ := id hsl
  rcases h with rfl | ⟨β, off, rfl, _, _⟩
  · refine JL.append0 j H ht ha hs hx hi hd (k v w ?_)
    rw [List.append_nil]
    have hjl := (List.getElem?_eq_some_iff.1 hi)
    have : L.set j (trow e sz enc v l0) = L := by
      obtain ⟨h2, h3⟩ := hjl
      rw [← h3]; exact List.set_getElem_self h2
    rw [this]; exact H
  · refine JL.append (news := l.flatMap enc) j H ht ha hs hx hi (flat_len he l) (hsl.flat he h0) h1 hb h63 hd fun v' w' H' => k v' w' ?_
    unfold trow
    rw [List.length_append, List.flatMap_append]
    exact H'
end
theorem allOne_runs : ∀ rs : List Run, allOne (rs.flatMap Run.cs) = true := by
  intro rs
  induction rs with
  | nil => rfl
  | cons r rs ih => rw [List.flatMap_cons]; simp only [Run.cs, List.cons_append, List.nil_append, allOne, ih]; rfl
theorem grow224_c (n : Nat) (w : World) (hn : n ≤ 1000000000) : Calls Try.prog 224 #[.slice none 0 0, .int .i64 n] w (fun e w' => ∃ v, e = .returned v ∧ Own w w' [runRow v []]) := by
  refine calls_J (args := [.slice none 0 0, .int .i64 n]) Try.func224 rfl Try.ntmps224 rfl ?_
  have H := Own.start w
  ((repeat refine JC.seq ?_); refine JC.region ?_)
  refine JL.pure rfl rfl ?_
  refine JL.nil ?_
  ((repeat refine Ex.normal_block ?_); refine Ex.next ?_)
  ((repeat refine JC.seq ?_); refine JC.region ?_)
  refine JL.pure rfl rfl ?_
  refine JL.pure rfl rfl ?_
  refine JL.re 6 rfl (v' := .bool false) (congrArg Value.bool (decide_eq_false (by omega))) ?_
  refine JL.nil ?_
  ((repeat refine Ex.normal_block ?_); refine Ex.next ?_)
  ((repeat refine JC.seq ?_); refine JC.cond rfl (fun h => by cases h) (fun _ => ?_))
  ((repeat refine JC.seq ?_); refine JC.skip ?_)
  ((repeat refine Ex.normal_block ?_); refine Ex.next ?_)
  ((repeat refine JC.seq ?_); refine JC.region ?_)
  refine JL.pure rfl rfl ?_
  refine JL.pure rfl rfl ?_
  refine JL.capS rfl Try.underlying50 rfl ?_
  refine JL.pure rfl rfl ?_
  refine JL.len rfl Try.underlying50 rfl ?_
  refine JL.arith rfl (by unfold In64; omega) rfl ?_
  refine JL.arith rfl (by unfold In64; omega) rfl ?_
  refine JL.re 14 rfl (v' := .int .i64 n) (by congr 1 <;> omega) ?_
  refine JL.pure rfl rfl ?_
  refine JL.nil ?_
  ((repeat refine Ex.normal_block ?_); refine Ex.next ?_)
  ((repeat refine JC.seq ?_); refine JC.region ?_)
  refine JL.pure rfl rfl ?_
  refine JL.pure rfl rfl ?_
  refine JL.nil ?_
  ((repeat refine Ex.normal_block ?_); refine Ex.next ?_)
  ((repeat refine JC.seq ?_); refine JC.cond rfl ?_ ?_)
  · intro h16
    (try simp only [Bool.not_eq_true', Bool.not_eq_false', decide_eq_true_eq, decide_eq_false_iff_not] at h16)
    ((repeat refine JC.seq ?_); refine JC.region ?_)
    refine JL.pure rfl rfl ?_
    refine JL.pure rfl rfl ?_
    refine JL.capS rfl Try.underlying50 rfl ?_
    refine JL.sliceTo (m := 0) rfl rfl Try.underlying50 sh140 (Nat.le_refl _) rfl ?_
    refine JL.pure rfl rfl ?_
    refine JL.appendZ H Try.underlying50 Try.underlying3 ap140 rfl rfl (by omega) (by omega) hn rfl ?_
    intro g c cur w9 hc1 hc2 hc3 H
    refine JL.pure rfl rfl ?_
    refine JL.len rfl Try.underlying50 rfl ?_
    refine JL.sliceTo (m := 0) rfl rfl Try.underlying50 sh140 (Nat.zero_le _) rfl ?_
    refine JL.pure rfl rfl ?_
    refine JL.nil ?_
    ((repeat refine Ex.normal_block ?_); refine Ex.next ?_)
    ((repeat refine JC.seq ?_); refine JC.region ?_)
    refine JL.pure rfl rfl ?_
    refine JL.pure rfl rfl ?_
    refine JL.nil ?_
    ((repeat refine Ex.normal_block ?_); refine Ex.next ?_)
    ((repeat refine JC.seq ?_); refine JC.ret ?_)
    (repeat (first | refine Ex.ret_then ?_ | refine Ex.ret_block ?_))
    refine Ex.ret1 rfl (.tmp rfl) ⟨_, rfl, ?_⟩
    exact H.upd (j := 0) rfl (row_of_blk (n := 0) (xs := []) rfl (Nat.zero_le _) hc2 hc3 (by simp))
  · intro h16
    (try simp only [Bool.not_eq_true', Bool.not_eq_false', decide_eq_true_eq, decide_eq_false_iff_not] at h16)
    ((repeat refine JC.seq ?_); refine JC.skip ?_)
    ((repeat refine Ex.normal_block ?_); refine Ex.next ?_)
    ((repeat refine JC.seq ?_); refine JC.region ?_)
    refine JL.pure rfl rfl ?_
    refine JL.pure rfl rfl ?_
    refine JL.nil ?_
    ((repeat refine Ex.normal_block ?_); refine Ex.next ?_)
    ((repeat refine JC.seq ?_); refine JC.ret ?_)
    (repeat (first | refine Ex.ret_then ?_ | refine Ex.ret_block ?_))
    refine Ex.ret1 rfl (.tmp rfl) ⟨_, rfl, H.nilRow 140 3⟩
def totL (l : List (Value × List Run)) : Nat := (l.flatMap Prod.snd).length
theorem totL_take {l : List (Value × List Run)} {k : Nat} (hk : k < l.length) : totL (l.take (k + 1)) = totL (l.take k) + l[k].2.length := by
  unfold totL; rw [List.take_succ_eq_append_getElem hk, List.flatMap_append]; simp
theorem totL_le (l : List (Value × List Run)) (k : Nat) : totL (l.take k) ≤ totL l := by
  have h : totL (l.take k ++ l.drop k) = totL (l.take k) + totL (l.drop k) := by unfold totL; rw [List.flatMap_append, List.length_append]
  rw [List.take_append_drop] at h
  omega
theorem concat_c (sv : Value) (l : List (Value × List Run)) (w : World) (hs : Sl Prod.fst (false, 1) w sv l) (hr : ∀ p ∈ l, SlR w p.1 p.2) (hn : totL l ≤ 1000000) :
    Calls Try.prog 145 #[sv] w (fun e w' => ∃ v, e = .returned v ∧ Own w w' [runRow v (l.flatMap Prod.snd)]) := by
  obtain ⟨sa, sc, rfl⟩ := hs.len
  refine calls_J (args := [.slice sa l.length sc]) Try.func145 rfl Try.ntmps145 rfl ?_
  have H := Own.start w
  ((repeat refine JC.seq ?_); refine JC.region ?_)
  refine JL.pure rfl rfl ?_
  refine JL.nil ?_
  ((repeat refine Ex.normal_block ?_); refine Ex.next ?_)
  ((repeat refine JC.seq ?_); refine JC.region ?_)
  refine JL.pure rfl rfl ?_
  refine JL.nil ?_
  ((repeat refine Ex.normal_block ?_); refine Ex.next ?_)
  ((repeat refine JC.seq ?_); refine JC.region ?_)
  refine JL.pure rfl rfl ?_
  refine JL.len rfl Try.underlying134 rfl ?_
  refine JL.pure rfl rfl ?_
  refine JL.nil ?_
  ((repeat refine Ex.normal_block ?_); refine Ex.next ?_)
  ((repeat refine JC.seq ?_); refine JC.block ?_)
  ((repeat refine JC.seq ?_); refine JC.loop (ι := Nat) (fun k => [(0, .slice sa l.length sc), (3, .int .i64 (totL (l.take k))), (9, .slice sa l.length sc), (10, .int .i64 l.length), (11, .int .i64 k)])
    (fun k wr => k ≤ l.length ∧ Own w wr []) (fun k => l.length - k) 0 ?_ ?_ ?_)
  · exact ⟨rfl, rfl, rfl, rfl, rfl, trivial⟩
  · exact ⟨Nat.zero_le _, H⟩
  · rintro k wr ⟨hk, H⟩
    ((repeat refine JC.seq ?_); refine JC.region ?_)
    refine JL.pure rfl rfl ?_
    refine JL.nil ?_
    ((repeat refine Ex.normal_block ?_); refine Ex.next ?_)
    ((repeat refine JC.seq ?_); refine JC.cond rfl ?_ ?_)
    · intro h12
      (try simp only [Bool.not_eq_true', Bool.not_eq_false', decide_eq_true_eq, decide_eq_false_iff_not] at h12)
      have h12 : k < l.length := by omega
      have hx : l[k]? = some l[k] := by simp [h12]
      obtain ⟨xa, xc, hxv⟩ := (hr _ (List.getElem_mem h12)).len
      obtain ⟨_, _, _, he1, hs'⟩ := id hs
      cases he1
      obtain ⟨β, off, hsa, hβ, hc⟩ := hs'.resolve_left (by rintro rfl; simp at h12)
      have htk := totL_take h12
      have htl := totL_le l (k + 1)
      ((repeat refine JC.seq ?_); refine JC.skip ?_)
      ((repeat refine Ex.normal_block ?_); refine Ex.next ?_)
      ((repeat refine JC.seq ?_); refine JC.block ?_)
      ((repeat refine JC.seq ?_); refine JC.region ?_)
      refine JL.indexS k (congrArg (fun z => some (Value.slice z l.length sc)) hsa) rfl Try.underlying134 sh50 rfl h12 rfl ?_
      refine JL.load rfl sh50 (by have := (hc k _ hx).grow hβ H.below; rw [hxv] at this; exact this) rfl ?_
      refine JL.pure rfl rfl ?_
      refine JL.nil ?_
      ((repeat refine Ex.normal_block ?_); refine Ex.next ?_)
      ((repeat refine JC.seq ?_); refine JC.region ?_)
      refine JL.pure rfl rfl ?_
      refine JL.pure rfl rfl ?_
      refine JL.len rfl Try.underlying50 rfl ?_
      refine JL.arith rfl (by unfold In64; omega) rfl ?_
      refine JL.pure rfl rfl ?_
      refine JL.nil ?_
      ((repeat refine Ex.normal_block ?_); refine Ex.next ?_)
      ((repeat refine JC.seq ?_); refine JC.region ?_)
      refine JL.pure rfl rfl ?_
      refine JL.pure rfl rfl ?_
      refine JL.re 20 rfl (v' := .bool false) (congrArg Value.bool (decide_eq_false (by omega))) ?_
      refine JL.nil ?_
      ((repeat refine Ex.normal_block ?_); refine Ex.next ?_)
      ((repeat refine JC.seq ?_); refine JC.cond rfl (fun h => by cases h) (fun _ => ?_))
      ((repeat refine JC.seq ?_); refine JC.skip ?_)
      ((repeat refine Ex.normal_block ?_); refine Ex.next ?_)
      ((repeat refine JC.seq ?_); refine JC.region ?_)
      refine JL.arith rfl (by unfold In64; omega) rfl ?_
      refine JL.pure rfl rfl ?_
      refine JL.nil ?_
      (repeat refine Ex.normal_block ?_)
      rw [show ((totL (l.take k) : Nat) : Int) + (l[k].2.length : Int) = ((totL (l.take (k + 1)) : Nat) : Int) by omega]
      exact Ex.again (k + 1) ⟨rfl, rfl, rfl, rfl, rfl, trivial⟩ ⟨h12, H⟩ (by omega)
    · intro h12
      (try simp only [Bool.not_eq_true', Bool.not_eq_false', decide_eq_true_eq, decide_eq_false_iff_not] at h12)
      have hkk : k = l.length := by omega
      subst hkk
      ((repeat refine JC.seq ?_); refine JC.exit ?_)
      (repeat (first | refine Ex.exit_then ?_ | refine Ex.exit_miss (by decide) ?_))
      refine Ex.exit_hit ?_
      ((repeat refine Ex.normal_block ?_); refine Ex.next ?_)
      ((repeat refine JC.seq ?_); refine JC.region ?_)
      refine JL.pure rfl rfl ?_
      refine JL.call fb224 rfl rfl (grow224_c (totL (l.take l.length)) _ (by rw [List.take_length]; omega)) ?_
      rintro _ w1 ⟨gv, rfl, K⟩
      have H := H.join K
      refine ⟨_, rfl, ?_⟩
      refine JL.pure rfl rfl ?_
      refine JL.nil ?_
      ((repeat refine Ex.normal_block ?_); refine Ex.next ?_)
      ((repeat refine JC.seq ?_); refine JC.region ?_)
      refine JL.pure rfl rfl ?_
      refine JL.len rfl Try.underlying134 rfl ?_
      refine JL.pure rfl rfl ?_
      refine JL.nil ?_
      ((repeat refine Ex.normal_block ?_); refine Ex.next ?_)
      ((repeat refine JC.seq ?_); refine JC.block ?_)
      ((repeat refine JC.seq ?_); refine JC.loop (ι := Nat × Value) (fun x => [(0, .slice sa l.length sc), (6, x.2), (25, .slice sa l.length sc), (26, .int .i64 l.length), (27, .int .i64 x.1)])
        (fun x wr => x.1 ≤ l.length ∧ Own w wr [runRow x.2 ((l.take x.1).flatMap Prod.snd)]) (fun x => l.length - x.1) (0, gv) ?_ ?_ ?_)
      · exact ⟨rfl, rfl, rfl, rfl, rfl, trivial⟩
      · exact ⟨Nat.zero_le _, H⟩
      · rintro ⟨k, v⟩ wr ⟨hk, H⟩
        simp only at hk H
        show JC _ _ _ _ [(0, .slice sa l.length sc), (6, v), (25, .slice sa l.length sc), (26, .int .i64 l.length), (27, .int .i64 k)] _
        ((repeat refine JC.seq ?_); refine JC.region ?_)
        refine JL.pure rfl rfl ?_
        refine JL.nil ?_
        ((repeat refine Ex.normal_block ?_); refine Ex.next ?_)
        ((repeat refine JC.seq ?_); refine JC.cond rfl ?_ ?_)
        · intro h28
          (try simp only [Bool.not_eq_true', Bool.not_eq_false', decide_eq_true_eq, decide_eq_false_iff_not] at h28)
          have h28 : k < l.length := by omega
          have hx : l[k]? = some l[k] := by simp [h28]
          obtain ⟨xa, xc, hxv⟩ := (hr _ (List.getElem_mem h28)).len
          obtain ⟨_, _, _, he1, hs'⟩ := id hs
          cases he1
          obtain ⟨β, off, hsa, hβ, hc⟩ := hs'.resolve_left (by rintro rfl; simp at h28)
          have htk := totL_take h28
          have htl := totL_le l (k + 1)
          ((repeat refine JC.seq ?_); refine JC.skip ?_)
          ((repeat refine Ex.normal_block ?_); refine Ex.next ?_)
          ((repeat refine JC.seq ?_); refine JC.block ?_)
          ((repeat refine JC.seq ?_); refine JC.region ?_)
          refine JL.indexS k (congrArg (fun z => some (Value.slice z l.length sc)) hsa) rfl Try.underlying134 sh50 rfl h28 rfl ?_
          refine JL.load rfl sh50 (by have := (hc k _ hx).grow hβ H.below; rw [hxv] at this; exact this) rfl ?_
          refine JL.pure rfl rfl ?_
          refine JL.nil ?_
          ((repeat refine Ex.normal_block ?_); refine Ex.next ?_)
          ((repeat refine JC.seq ?_); refine JC.region ?_)
          refine JL.pure rfl rfl ?_
          refine JL.pure rfl rfl ?_
          unfold totL at htk htl
          refine JL.appendSl (enc := Run.cs) (sz := 3) (bytes := 24) (l0 := (l.take k).flatMap Prod.snd) (l := l[k].2) 0 H (fun _ => rfl) (by omega) Try.underlying50 ap140 rfl rfl (by have := (hr _ (List.getElem_mem h28)).grow H.below; rw [hxv] at this; exact this) rfl (allOne_runs _) (by unfold totL at *; omega) (by unfold totL at *; omega) rfl ?_
          intro v2 w2 H
          refine JL.pure rfl rfl ?_
          refine JL.nil ?_
          ((repeat refine Ex.normal_block ?_); refine Ex.next ?_)
          ((repeat refine JC.seq ?_); refine JC.region ?_)
          refine JL.arith rfl (by unfold In64; omega) rfl ?_
          refine JL.pure rfl rfl ?_
          refine JL.nil ?_
          (repeat refine Ex.normal_block ?_)
          refine Ex.again (k + 1, v2) ⟨rfl, rfl, rfl, rfl, rfl, trivial⟩ ⟨h28, ?_⟩ (by simp only; omega)
          simp only
          rw [List.take_succ_eq_append_getElem h28, List.flatMap_append, show [l[k]].flatMap Prod.snd = l[k].2 by simp]
          exact H
        · intro h28
          (try simp only [Bool.not_eq_true', Bool.not_eq_false', decide_eq_true_eq, decide_eq_false_iff_not] at h28)
          have hkk : k = l.length := by omega
          subst hkk
          rw [List.take_length] at H
          ((repeat refine JC.seq ?_); refine JC.exit ?_)
          (repeat (first | refine Ex.exit_then ?_ | refine Ex.exit_miss (by decide) ?_))
          refine Ex.exit_hit ?_
          ((repeat refine Ex.normal_block ?_); refine Ex.next ?_)
          ((repeat refine JC.seq ?_); refine JC.region ?_)
          refine JL.pure rfl rfl ?_
          refine JL.pure rfl rfl ?_
          refine JL.nil ?_
          ((repeat refine Ex.normal_block ?_); refine Ex.next ?_)
          ((repeat refine JC.seq ?_); refine JC.ret ?_)
          (repeat (first | refine Ex.ret_then ?_ | refine Ex.ret_block ?_))
          refine Ex.ret1 rfl (.tmp rfl) ⟨_, rfl, H⟩
theorem either_c (g : Grid) (lv av bv : Value) (a b : List Run) (w : World) (hl : SlR w lv g.land) (ha : SlR w av a) (hb : SlR w bv b) (hca : capOK av) (hcb : capOK bv) :
    Calls Try.prog 54 #[g.ev lv, av, bv] w (fun e w' => ResR w w' [] (eitherR g a b) e) := by
  obtain ⟨aa, ac, rfl⟩ := ha.len
  obtain ⟨ba, bc, rfl⟩ := hb.len
  refine calls_J (args := [g.ev lv, .slice aa a.length ac, .slice ba b.length bc]) Try.func54 rfl Try.ntmps54 rfl ?_
  have H := Own.start w
  ((repeat refine JC.seq ?_); refine JC.region ?_)
  refine JL.box H rfl rfl rfl ?_
  intro b3 w1 H
  refine JL.pure rfl rfl ?_
  refine JL.pure rfl rfl ?_
  refine JL.nil ?_
  ((repeat refine Ex.normal_block ?_); refine Ex.next ?_)
  ((repeat refine JC.seq ?_); refine JC.region ?_)
  refine JL.loadB 0 H rfl sh52 rfl rfl rfl ?_
  refine JL.pure rfl rfl ?_
  refine JL.pure rfl rfl ?_
  refine JL.buildSlice H Try.underlying134 sh50 z50 rfl rfl rfl rfl rfl ?_
  intro b15 w2 H
  refine JL.callP H fb129 rfl rfl (checked_c g lv _ [(.slice aa a.length ac, a), (.slice ba b.length bc, b)] _ (hl.grow H.below) (H.blkSl1 (j := 0) (ev := Prod.fst) rfl [(.slice aa a.length ac, a), (.slice ba b.length bc, b)] rfl (by simp)) (by
    have hB := H.below
    intro p hp
    simp only [List.mem_cons, List.not_mem_nil, or_false] at hp
    rcases hp with rfl | rfl
    · exact ha.grow hB
    · exact hb.grow hB)) ?_
  intro w3 H _
  refine JL.pure rfl rfl ?_
  refine JL.nil ?_
  ((repeat refine Ex.normal_block ?_); refine Ex.next ?_)
  ((repeat refine JC.seq ?_); refine JC.region ?_)
  refine JL.pure rfl rfl ?_
  refine JL.pure rfl rfl ?_
  refine JL.nil ?_
  ((repeat refine Ex.normal_block ?_); refine Ex.next ?_)
  ((repeat refine JC.seq ?_); refine JC.cond rfl ?_ ?_)
  · intro h18
    (try simp only [Bool.not_eq_true', Bool.not_eq_false', decide_eq_true_eq, decide_eq_false_iff_not] at h18)
    have hok : checkedB g [a, b] = false := by
      cases hc : checkedB g [a, b] with
      | false => rfl
      | true => exfalso; simp [hc] at h18
    ((repeat refine JC.seq ?_); refine JC.region ?_)
    refine JL.pure rfl rfl ?_
    refine JL.pure rfl rfl ?_
    refine JL.pure rfl rfl ?_
    refine JL.nil ?_
    ((repeat refine Ex.normal_block ?_); refine Ex.next ?_)
    ((repeat refine JC.seq ?_); refine JC.ret ?_)
    (repeat (first | refine Ex.ret_then ?_ | refine Ex.ret_block ?_))
    refine Ex.ret2 rfl (.tmp rfl) (.tmp rfl) ?_
    unfold eitherR ResR; rw [hok]
    exact ⟨.slice none 0 0, by simp [hok], (((H.drop 0).drop 0).nilRow 140 3)⟩
  · intro h18
    (try simp only [Bool.not_eq_true', Bool.not_eq_false', decide_eq_true_eq, decide_eq_false_iff_not] at h18)
    have hok : checkedB g [a, b] = true := by
      cases hc : checkedB g [a, b] with
      | true => rfl
      | false => exfalso; simp [hc] at h18
    obtain ⟨hgok, hall⟩ := checkedB_b hok
    obtain ⟨hgW, hgH, hgS, hgl⟩ := Grid.ok_b hgok
    have hal := rightB_len (hall a (by simp))
    have hbl := rightB_len (hall b (by simp))
    have hlen : (a ++ b).length ≤ 16384 := by rw [List.length_append]; omega
    ((repeat refine JC.seq ?_); refine JC.skip ?_)
    ((repeat refine Ex.normal_block ?_); refine Ex.next ?_)
    ((repeat refine JC.seq ?_); refine JC.region ?_)
    refine JL.buildA Try.underlying195 sh193 za195 rfl rfl ?_
    refine JL.box H rfl rfl rfl ?_
    intro b21 w4 H
    have H := H.newT
    refine JL.pure rfl rfl ?_
    refine JL.nil ?_
    ((repeat refine Ex.normal_block ?_); refine Ex.next ?_)
    ((repeat refine JC.seq ?_); refine JC.region ?_)
    refine JL.pure rfl rfl ?_
    refine JL.pure rfl rfl ?_
    refine JL.buildSlice H Try.underlying134 sh50 z50 rfl rfl rfl rfl rfl ?_
    intro b24 w5 H
    refine JL.call fb145 rfl rfl (concat_c _ [(.slice aa a.length ac, a), (.slice ba b.length bc, b)] _ (H.blkSl1 (j := 0) (ev := Prod.fst) rfl [(.slice aa a.length ac, a), (.slice ba b.length bc, b)] rfl (by simp)) (by
      have hB := H.below
      intro p hp
      simp only [List.mem_cons, List.not_mem_nil, or_false] at hp
      rcases hp with rfl | rfl
      · exact ha.grow hB
      · exact hb.grow hB) (by unfold totL; simp at hlen ⊢; omega)) ?_
    rintro _ w6 ⟨cv, rfl, K⟩
    replace K : Own _ _ [runRow cv (a ++ b)] := K.cast (by simp)
    generalize hrs : a ++ b = rs at K hlen
    obtain ⟨ca, cc, rfl⟩ := K.row_slice (j := 0) rfl
    have H := H.join K
    refine ⟨_, rfl, ?_⟩
    refine JL.len rfl Try.underlying50 rfl ?_
    refine JL.pure rfl rfl ?_
    refine JL.nil ?_
    ((repeat refine Ex.normal_block ?_); refine Ex.next ?_)
    ((repeat refine JC.seq ?_); refine JC.block ?_)
    ((repeat refine JC.seq ?_); refine JC.loop (ι := Nat) (fun k => [(3, .pointer (some ⟨b3, 0, none⟩)), (9, .pointer (some ⟨b21, 0, none⟩)), (25, .slice ca rs.length cc), (26, .int .i64 rs.length), (27, .int .i64 k)])
      (fun k wr => k ≤ rs.length ∧ Own w wr [tbl b21 (addAll g tab0 (rs.take k)), runRow (.slice ca rs.length cc) rs, blk b3 (.cells ⟨[.int .i64 g.W, .int .i64 g.H, .int .i64 g.S, lv]⟩ 52 (0, 0))]) (fun k => rs.length - k) 0 ?_ ?_ ?_)
    · exact ⟨rfl, rfl, rfl, rfl, rfl, trivial⟩
    · exact ⟨Nat.zero_le _, ((H.drop 1).drop 2).perm (List.Perm.swap _ _ _)⟩
    · rintro k wr ⟨hk, H⟩
      have hgd := addAll_good (g := g) (rs.take k) (tab0_good g.W)
      ((repeat refine JC.seq ?_); refine JC.region ?_)
      refine JL.pure rfl rfl ?_
      refine JL.nil ?_
      ((repeat refine Ex.normal_block ?_); refine Ex.next ?_)
      ((repeat refine JC.seq ?_); refine JC.cond rfl ?_ ?_)
      · intro h28
        (try simp only [Bool.not_eq_true', Bool.not_eq_false', decide_eq_true_eq, decide_eq_false_iff_not] at h28)
        have h28 : k < rs.length := by omega
        have hx : rs[k]? = some rs[k] := by simp [h28]
        obtain ⟨g2, c2, hg2, _, _, _⟩ := H.rowAt (j := 1) (e := 140) (sz := 3) (enc := Run.cs) (fun _ => rfl) rfl hx
        simp only [Value.slice.injEq] at hg2
        obtain ⟨rfl, _, rfl⟩ := hg2
        have hkl : (rs.take k).length ≤ 16384 := by rw [List.length_take]; omega
        ((repeat refine JC.seq ?_); refine JC.skip ?_)
        ((repeat refine Ex.normal_block ?_); refine Ex.next ?_)
        ((repeat refine JC.seq ?_); refine JC.block ?_)
        ((repeat refine JC.seq ?_); refine JC.region ?_)
        refine JL.indexS k rfl rfl Try.underlying50 sh140 rfl h28 rfl ?_
        refine JL.load rfl sh140 (H.rowLd (j := 1) (e := 140) (sz := 3) (enc := Run.cs) (fun _ => rfl) rfl hx) rfl ?_
        refine JL.alloc H z140 rfl ?_
        intro b11 w7 H
        refine JL.storeB 0 H rfl rfl sh140 rfl rfl rfl rfl rfl ?_
        intro w8 H
        refine JL.nil ?_
        ((repeat refine Ex.normal_block ?_); refine Ex.next ?_)
        ((repeat refine JC.seq ?_); refine JC.region ?_)
        refine JL.pure rfl rfl ?_
        refine JL.loadB 3 H rfl sh52 rfl rfl rfl ?_
        refine JL.fieldAddr rfl Try.underlying140 rfl sh3 rfl ?_
        refine JL.loadB 0 H rfl sh3 rfl rfl rfl ?_
        refine JL.fieldAddr rfl Try.underlying140 rfl sh3 rfl ?_
        refine JL.loadB 0 H rfl sh3 rfl rfl rfl ?_
        refine JL.fieldAddr rfl Try.underlying140 rfl sh3 rfl ?_
        refine JL.loadB 0 H rfl sh3 rfl rfl rfl ?_
        refine JL.call fb134 rfl rfl (add_c (H.perm (List.Perm.swap _ _ _)) _ _ _ _ _ _ _ hgH hgW.2 (fun l hl => by have := hgd.le l hl; omega)) ?_
        rintro _ w9 ⟨rfl, H⟩
        refine ⟨_, rfl, ?_⟩
        refine JL.nil ?_
        ((repeat refine Ex.normal_block ?_); refine Ex.next ?_)
        ((repeat refine JC.seq ?_); refine JC.region ?_)
        refine JL.arith rfl (by unfold In64; omega) rfl ?_
        refine JL.pure rfl rfl ?_
        refine JL.nil ?_
        (repeat refine Ex.normal_block ?_)
        rw [← addAll_take h28] at H
        exact Ex.again (k + 1) ⟨rfl, rfl, rfl, rfl, rfl, trivial⟩ ⟨h28, H.drop 1⟩ (by omega)
      · intro h28
        (try simp only [Bool.not_eq_true', Bool.not_eq_false', decide_eq_true_eq, decide_eq_false_iff_not] at h28)
        have hkk : k = rs.length := by omega
        subst hkk
        rw [List.take_length] at H hgd
        ((repeat refine JC.seq ?_); refine JC.exit ?_)
        (repeat (first | refine Ex.exit_then ?_ | refine Ex.exit_miss (by decide) ?_))
        refine Ex.exit_hit ?_
        ((repeat refine Ex.normal_block ?_); refine Ex.next ?_)
        ((repeat refine JC.seq ?_); refine JC.region ?_)
        refine JL.pure rfl rfl ?_
        refine JL.call fb131 rfl rfl (region_c2 H hgd (by omega) hgW.2) ?_
        rintro _ w10 ⟨rv, rfl, H⟩
        refine ⟨_, rfl, ?_⟩
        refine JL.pure rfl rfl ?_
        refine JL.pure rfl rfl ?_
        refine JL.pure rfl rfl ?_
        refine JL.pure rfl rfl ?_
        refine JL.nil ?_
        ((repeat refine Ex.normal_block ?_); refine Ex.next ?_)
        ((repeat refine JC.seq ?_); refine JC.ret ?_)
        (repeat (first | refine Ex.ret_then ?_ | refine Ex.ret_block ?_))
        refine Ex.ret2 rfl (.tmp rfl) (.tmp rfl) ?_
        unfold eitherR; rw [hok, hrs]
        exact ⟨_, rfl, (H.drop 1).drop 1⟩
end Go.J

namespace Go.J
open Go.RowKit Go.Proofs
set_option maxRecDepth 8000
set_option linter.unusedSimpArgs false
set_option linter.unusedVariables false
def twoB (n : Int) (x y : Bool) : Bool := decide (n = 0) && (x || y) || decide (n = 1) && x && y || decide (n = 2) && x && !y
def twoR (n : Int) (g : Grid) (a b : List Run) : List Run × Int := if checkedB g [a, b] then runsR g (fun c => twoB n (hasB a c) (hasB b c)) else ([], 2)
theorem two_c (n : Int) (g : Grid) (lv av bv : Value) (a b : List Run) (w : World) (hl : SlR w lv g.land) (ha : SlR w av a) (hb : SlR w bv b) :
    Calls Try.prog 146 #[g.ev lv, av, bv, .int .i64 n] w (fun e w' => ResR w w' [] (twoR n g a b) e) := by
  obtain ⟨la, lc, rfl⟩ := hl.len
  obtain ⟨aa, ac, rfl⟩ := ha.len
  obtain ⟨ba, bc, rfl⟩ := hb.len
  refine calls_J (args := [g.ev (.slice la g.land.length lc), .slice aa a.length ac, .slice ba b.length bc, .int .i64 n]) Try.func146 rfl Try.ntmps146 rfl ?_
  have H := Own.start w
  ((repeat refine JC.seq ?_); refine JC.region ?_)
  refine JL.box H rfl rfl rfl ?_
  intro b4 w1 H
  refine JL.pure rfl rfl ?_
  refine JL.pure rfl rfl ?_
  refine JL.nil ?_
  ((repeat refine Ex.normal_block ?_); refine Ex.next ?_)
  ((repeat refine JC.seq ?_); refine JC.region ?_)
  refine JL.loadB 0 H rfl sh52 rfl rfl rfl ?_
  refine JL.pure rfl rfl ?_
  refine JL.pure rfl rfl ?_
  refine JL.buildSlice H Try.underlying134 sh50 z50 rfl rfl rfl rfl rfl ?_
  intro b21 w2 H
  refine JL.callP H fb225 rfl rfl (valid_c g _ _ [(.slice aa a.length ac, a), (.slice ba b.length bc, b)] _ (hl.grow H.below) (H.blkSl1 (j := 0) (ev := Prod.fst) rfl [(.slice aa a.length ac, a), (.slice ba b.length bc, b)] rfl (by simp)) (by
    have hB := H.below
    intro p hp
    simp only [List.mem_cons, List.not_mem_nil, or_false] at hp
    rcases hp with rfl | rfl
    · exact ha.grow hB
    · exact hb.grow hB)) ?_
  intro w3 H _
  refine JL.pure rfl rfl ?_
  refine JL.nil ?_
  ((repeat refine Ex.normal_block ?_); refine Ex.next ?_)
  ((repeat refine JC.seq ?_); refine JC.region ?_)
  refine JL.pure rfl rfl ?_
  refine JL.pure rfl rfl ?_
  refine JL.nil ?_
  ((repeat refine Ex.normal_block ?_); refine Ex.next ?_)
  ((repeat refine JC.seq ?_); refine JC.cond rfl ?_ ?_)
  · intro h24
    (try simp only [Bool.not_eq_true', Bool.not_eq_false', decide_eq_true_eq, decide_eq_false_iff_not] at h24)
    have hok : checkedB g [a, b] = false := by simpa using h24
    ((repeat refine JC.seq ?_); refine JC.region ?_)
    refine JL.pure rfl rfl ?_
    refine JL.pure rfl rfl ?_
    refine JL.nil ?_
    ((repeat refine Ex.normal_block ?_); refine Ex.next ?_)
    ((repeat refine JC.seq ?_); refine JC.ret ?_)
    (repeat (first | refine Ex.ret_then ?_ | refine Ex.ret_block ?_))
    refine Ex.ret2 rfl (.tmp rfl) (.tmp rfl) ?_
    unfold twoR ResR; rw [hok]
    exact ⟨.slice none 0 0, rfl, (((H.drop 0).drop 0).nilRow 140 3)⟩
  · intro h24
    (try simp only [Bool.not_eq_true', Bool.not_eq_false', decide_eq_true_eq, decide_eq_false_iff_not] at h24)
    have hok : checkedB g [a, b] = true := by simpa using h24
    obtain ⟨hgok, hall⟩ := checkedB_b hok
    obtain ⟨hgW, hgH, hgS, hgl⟩ := Grid.ok_b hgok
    have hta : Tame a := tame_right hgW.2 (canon_of_right (hall a (by simp)))
    have htb : Tame b := tame_right hgW.2 (canon_of_right (hall b (by simp)))
    ((repeat refine JC.seq ?_); refine JC.skip ?_)
    ((repeat refine Ex.normal_block ?_); refine Ex.next ?_)
    ((repeat refine JC.seq ?_); refine JC.region ?_)
    refine JL.pure rfl rfl ?_
    refine JL.call fb135 rfl rfl (of_c (.slice aa a.length ac) a _ (ha.grow H.below) hta) ?_
    rintro _ w4 ⟨β1, m1, rfl, K, hm1⟩
    have H := H.join K
    refine ⟨_, rfl, ?_⟩
    refine JL.pure rfl rfl ?_
    refine JL.nil ?_
    ((repeat refine Ex.normal_block ?_); refine Ex.next ?_)
    ((repeat refine JC.seq ?_); refine JC.region ?_)
    refine JL.pure rfl rfl ?_
    refine JL.call fb135 rfl rfl (of_c (.slice ba b.length bc) b _ (hb.grow H.below) htb) ?_
    rintro _ w5 ⟨β2, m2, rfl, K, hm2⟩
    have H := H.join K
    refine ⟨_, rfl, ?_⟩
    refine JL.pure rfl rfl ?_
    refine JL.nil ?_
    ((repeat refine Ex.normal_block ?_); refine Ex.next ?_)
    ((repeat refine JC.seq ?_); refine JC.region ?_)
    refine JL.makeMap Cell.ev Value.bool H rfl ?_
    intro β w1 H
    refine JL.pure rfl rfl ?_
    refine JL.nil ?_
    ((repeat refine Ex.normal_block ?_); refine Ex.next ?_)
    ((repeat refine JC.seq ?_); refine JC.region ?_)
    refine JL.loadB 4 H rfl sh52 rfl rfl rfl ?_
    refine JL.call fb172 rfl rfl (every_c g _ _ (hl.grow H.below) (by omega) (by omega)) ?_
    rintro _ w6 ⟨cv, rfl, K⟩
    have hcl : ∀ c ∈ everyR g.W.toNat g.H.toNat, inG g c := fun c hc => (every_inG (by omega) (by omega)).1 hc
    have hlen : (everyR g.W.toNat g.H.toNat).length ≤ 65536 := by rw [everyR_len]; exact nat_mul_bd (by omega) (by omega)
    generalize hev : everyR g.W.toNat g.H.toNat = l at K hcl hlen
    obtain ⟨ca, cc, rfl⟩ := K.row_slice (j := 0) rfl
    have H := H.join K
    refine ⟨_, rfl, ?_⟩
    refine JL.pure rfl rfl ?_
    refine JL.nil ?_
    ((repeat refine Ex.normal_block ?_); refine Ex.next ?_)
    ((repeat refine JC.seq ?_); refine JC.region ?_)
    refine JL.pure rfl rfl ?_
    refine JL.nil ?_
    ((repeat refine Ex.normal_block ?_); refine Ex.next ?_)
    ((repeat refine JC.seq ?_); refine JC.block ?_)
    ((repeat refine JC.seq ?_); refine JC.loop (ι := Nat × List (Cell × Bool)) (fun x => [(3, .int .i64 n), (4, .pointer (some ⟨b4, 0, none⟩)), (11, .map (some β1)), (12, .map (some β2)), (13, .map (some β)), (14, .slice ca l.length cc), (15, .int .i64 x.1)])
      (fun x wr => x.1 ≤ l.length ∧ MSet x.2 (fun c => c ∈ l.take x.1 ∧ twoB n (hasB a c) (hasB b c) = true) ∧ Own w wr [cellRow (.slice ca l.length cc) l, setM β x.2, setM β2 m2, setM β1 m1, blk b21 (.cells ⟨[.slice aa a.length ac, .slice ba b.length bc]⟩ 50 (0, 0)), blk b4 (.cells ⟨[.int .i64 g.W, .int .i64 g.H, .int .i64 g.S, .slice la g.land.length lc]⟩ 52 (0, 0))]) (fun x => l.length - x.1) (0, []) ?_ ?_ ?_)
    · exact ⟨rfl, rfl, rfl, rfl, rfl, rfl, rfl, trivial⟩
    · exact ⟨Nat.zero_le _, MSet.nil.congr fun c => by simp, H⟩
    · rintro ⟨k, m⟩ wr ⟨hk, hm, H⟩
      simp only at hk hm H
      show JC _ _ _ _ [(3, .int .i64 n), (4, .pointer (some ⟨b4, 0, none⟩)), (11, .map (some β1)), (12, .map (some β2)), (13, .map (some β)), (14, .slice ca l.length cc), (15, .int .i64 k)] _
      ((repeat refine JC.seq ?_); refine JC.region ?_)
      refine JL.pure rfl rfl ?_
      refine JL.pure rfl rfl ?_
      refine JL.len rfl Try.underlying68 rfl ?_
      refine JL.pure rfl rfl ?_
      refine JL.nil ?_
      ((repeat refine Ex.normal_block ?_); refine Ex.next ?_)
      ((repeat refine JC.seq ?_); refine JC.cond rfl ?_ ?_)
      · intro h35
        (try simp only [Bool.not_eq_true', Bool.not_eq_false', decide_eq_true_eq, decide_eq_false_iff_not] at h35)
        have h35 : k < l.length := by omega
        have hx : l[k]? = some l[k] := by simp [h35]
        obtain ⟨g2, c2, hg2, _, _, _⟩ := H.rowAt (j := 0) (e := 62) (sz := 2) (enc := Cell.cs) (fun _ => rfl) rfl hx
        simp only [Value.slice.injEq] at hg2
        obtain ⟨rfl, _, rfl⟩ := hg2
        obtain ⟨xa, hxa⟩ : ∃ x, x = hasB a l[k] := ⟨_, rfl⟩
        obtain ⟨xb, hxb⟩ : ∃ x, x = hasB b l[k] := ⟨_, rfl⟩
        have e1 : (mget m1 l[k]).getD false = xa := by rw [hxa]; exact Bool.eq_iff_iff.2 (hm1 _)
        have e2 : (mget m2 l[k]).getD false = xb := by rw [hxb]; exact Bool.eq_iff_iff.2 (hm2 _)
        ((repeat refine JC.seq ?_); refine JC.skip ?_)
        ((repeat refine Ex.normal_block ?_); refine Ex.next ?_)
        ((repeat refine JC.seq ?_); refine JC.block ?_)
        ((repeat refine JC.seq ?_); refine JC.region ?_)
        refine JL.pure rfl rfl ?_
        refine JL.pure rfl rfl ?_
        refine JL.pure rfl rfl ?_
        refine JL.indexS k rfl rfl Try.underlying68 sh62 rfl h35 rfl ?_
        refine JL.load rfl sh62 (H.rowLd (j := 0) (e := 62) (sz := 2) (enc := Cell.cs) (fun _ => rfl) rfl hx) rfl ?_
        refine JL.lookupM 3 H l[k] false rfl rfl rfl Try.underlying202 keyCell zero4 rfl ?_
        refine JL.re 43 rfl (v' := .bool xa) (congrArg Value.bool e1) ?_
        refine JL.pure rfl rfl ?_
        refine JL.nil ?_
        ((repeat refine Ex.normal_block ?_); refine Ex.next ?_)
        ((repeat refine JC.seq ?_); refine JC.region ?_)
        refine JL.pure rfl rfl ?_
        refine JL.pure rfl rfl ?_
        refine JL.pure rfl rfl ?_
        refine JL.indexS k rfl rfl Try.underlying68 sh62 rfl h35 rfl ?_
        refine JL.load rfl sh62 (H.rowLd (j := 0) (e := 62) (sz := 2) (enc := Cell.cs) (fun _ => rfl) rfl hx) rfl ?_
        refine JL.lookupM 2 H l[k] false rfl rfl rfl Try.underlying202 keyCell zero4 rfl ?_
        refine JL.re 49 rfl (v' := .bool xb) (congrArg Value.bool e2) ?_
        refine JL.pure rfl rfl ?_
        refine JL.nil ?_
        ((repeat refine Ex.normal_block ?_); refine Ex.next ?_)
        ((repeat refine JC.seq ?_); refine JC.region ?_)
        refine JL.pure rfl rfl ?_
        refine JL.pure rfl rfl ?_
        refine JL.pure rfl rfl ?_
        refine JL.indexS k rfl rfl Try.underlying68 sh62 rfl h35 rfl ?_
        refine JL.load rfl sh62 (H.rowLd (j := 0) (e := 62) (sz := 2) (enc := Cell.cs) (fun _ => rfl) rfl hx) rfl ?_
        refine JL.pure rfl rfl ?_
        refine JL.pure rfl rfl ?_
        refine JL.pure rfl rfl ?_
        refine JL.cases 57 rfl ?_ ?_
        · intro h57
          (try simp only [Bool.not_eq_true', Bool.not_eq_false', decide_eq_true_eq, decide_eq_false_iff_not] at h57)
          refine JL.want rfl rfl ?_
          refine JL.pure rfl rfl ?_
          refine JL.want rfl rfl ?_
          refine JL.pure rfl rfl ?_
          refine JL.cases 59 rfl ?_ ?_
          · intro h59
            (try simp only [Bool.not_eq_true', Bool.not_eq_false', decide_eq_true_eq, decide_eq_false_iff_not] at h59)
            refine JL.pass rfl rfl rfl rfl ?_
            refine JL.want rfl rfl ?_
            refine JL.pure rfl rfl ?_
            refine JL.pure rfl rfl ?_
            refine JL.pure rfl rfl ?_
            refine JL.pass rfl rfl rfl rfl ?_
            refine JL.pass rfl rfl rfl rfl ?_
            refine JL.pass rfl rfl rfl rfl ?_
            refine JL.passU rfl rfl rfl ?_
            refine JL.pass rfl rfl rfl rfl ?_
            refine JL.pass rfl rfl rfl rfl ?_
            refine JL.passU rfl rfl rfl ?_
            refine JL.pass rfl rfl rfl rfl ?_
            refine JL.pure rfl rfl ?_
            refine JL.pure rfl rfl ?_
            refine JL.pass rfl rfl rfl rfl ?_
            refine JL.pass rfl rfl rfl rfl ?_
            refine JL.pass rfl rfl rfl rfl ?_
            refine JL.passU rfl rfl rfl ?_
            refine JL.pass rfl rfl rfl rfl ?_
            refine JL.pass rfl rfl rfl rfl ?_
            refine JL.passU rfl rfl rfl ?_
            refine JL.passU rfl rfl rfl ?_
            refine JL.pass rfl rfl rfl rfl ?_
            refine JL.pure rfl rfl ?_
            refine JL.re 83 rfl (v' := .bool (twoB n (hasB a l[k]) (hasB b l[k]))) (by rw [← hxa, ← hxb]; unfold twoB; simp_all) ?_
            refine JL.mapUpdate 1 H l[k] (twoB n (hasB a l[k]) (hasB b l[k])) rfl rfl rfl Try.underlying202 keyCell rfl rfl ?_
            intro w7 H
            refine JL.nil ?_
            ((repeat refine Ex.normal_block ?_); refine Ex.next ?_)
            ((repeat refine JC.seq ?_); refine JC.region ?_)
            refine JL.pure rfl rfl ?_
            refine JL.arith rfl (by unfold In64; omega) rfl ?_
            refine JL.pure rfl rfl ?_
            refine JL.nil ?_
            (repeat refine Ex.normal_block ?_)
            refine Ex.again (k + 1, mset m l[k] (twoB n (hasB a l[k]) (hasB b l[k]))) ⟨rfl, rfl, rfl, rfl, rfl, rfl, rfl, trivial⟩ ⟨h35, (hm.put l[k] _).congr fun c => ?_, H⟩ (by simp only; omega)
            exact put_step (S := fun c => twoB n (hasB a c) (hasB b c) = true) (b := twoB n (hasB a l[k]) (hasB b l[k])) h35 Iff.rfl c
          · intro h59
            (try simp only [Bool.not_eq_true', Bool.not_eq_false', decide_eq_true_eq, decide_eq_false_iff_not] at h59)
            refine JL.want rfl rfl ?_
            refine JL.pure rfl rfl ?_
            refine JL.want rfl rfl ?_
            refine JL.pure rfl rfl ?_
            refine JL.pure rfl rfl ?_
            refine JL.pure rfl rfl ?_
            refine JL.cases 63 rfl ?_ ?_
            · intro h63
              (try simp only [Bool.not_eq_true', Bool.not_eq_false', decide_eq_true_eq, decide_eq_false_iff_not] at h63)
              refine JL.pass rfl rfl rfl rfl ?_
              refine JL.pass rfl rfl rfl rfl ?_
              refine JL.pass rfl rfl rfl rfl ?_
              refine JL.passU rfl rfl rfl ?_
              refine JL.pass rfl rfl rfl rfl ?_
              refine JL.pass rfl rfl rfl rfl ?_
              refine JL.passU rfl rfl rfl ?_
              refine JL.pass rfl rfl rfl rfl ?_
              refine JL.pure rfl rfl ?_
              refine JL.pure rfl rfl ?_
              refine JL.pass rfl rfl rfl rfl ?_
              refine JL.pass rfl rfl rfl rfl ?_
              refine JL.pass rfl rfl rfl rfl ?_
              refine JL.passU rfl rfl rfl ?_
              refine JL.pass rfl rfl rfl rfl ?_
              refine JL.pass rfl rfl rfl rfl ?_
              refine JL.passU rfl rfl rfl ?_
              refine JL.passU rfl rfl rfl ?_
              refine JL.pass rfl rfl rfl rfl ?_
              refine JL.pure rfl rfl ?_
              refine JL.re 83 rfl (v' := .bool (twoB n (hasB a l[k]) (hasB b l[k]))) (by rw [← hxa, ← hxb]; unfold twoB; simp_all) ?_
              refine JL.mapUpdate 1 H l[k] (twoB n (hasB a l[k]) (hasB b l[k])) rfl rfl rfl Try.underlying202 keyCell rfl rfl ?_
              intro w8 H
              refine JL.nil ?_
              ((repeat refine Ex.normal_block ?_); refine Ex.next ?_)
              ((repeat refine JC.seq ?_); refine JC.region ?_)
              refine JL.pure rfl rfl ?_
              refine JL.arith rfl (by unfold In64; omega) rfl ?_
              refine JL.pure rfl rfl ?_
              refine JL.nil ?_
              (repeat refine Ex.normal_block ?_)
              refine Ex.again (k + 1, mset m l[k] (twoB n (hasB a l[k]) (hasB b l[k]))) ⟨rfl, rfl, rfl, rfl, rfl, rfl, rfl, trivial⟩ ⟨h35, (hm.put l[k] _).congr fun c => ?_, H⟩ (by simp only; omega)
              exact put_step (S := fun c => twoB n (hasB a c) (hasB b c) = true) (b := twoB n (hasB a l[k]) (hasB b l[k])) h35 Iff.rfl c
            · intro h63
              (try simp only [Bool.not_eq_true', Bool.not_eq_false', decide_eq_true_eq, decide_eq_false_iff_not] at h63)
              refine JL.want rfl rfl ?_
              refine JL.pure rfl rfl ?_
              refine JL.want rfl rfl ?_
              refine JL.pure rfl rfl ?_
              refine JL.want rfl rfl ?_
              refine JL.pure rfl rfl ?_
              refine JL.cases 66 rfl ?_ ?_
              · intro h66
                (try simp only [Bool.not_eq_true', Bool.not_eq_false', decide_eq_true_eq, decide_eq_false_iff_not] at h66)
                refine JL.want rfl rfl ?_
                refine JL.pure rfl rfl ?_
                refine JL.want rfl rfl ?_
                refine JL.pure rfl rfl ?_
                refine JL.want rfl rfl ?_
                refine JL.pure rfl rfl ?_
                refine JL.cases 69 rfl ?_ ?_
                · intro h69
                  (try simp only [Bool.not_eq_true', Bool.not_eq_false', decide_eq_true_eq, decide_eq_false_iff_not] at h69)
                  refine JL.want rfl rfl ?_
                  refine JL.pure rfl rfl ?_
                  refine JL.want rfl rfl ?_
                  refine JL.pure rfl rfl ?_
                  refine JL.pure rfl rfl ?_
                  refine JL.pure rfl rfl ?_
                  refine JL.cases 73 rfl ?_ ?_
                  · intro h73
                    (try simp only [Bool.not_eq_true', Bool.not_eq_false', decide_eq_true_eq, decide_eq_false_iff_not] at h73)
                    refine JL.pass rfl rfl rfl rfl ?_
                    refine JL.pass rfl rfl rfl rfl ?_
                    refine JL.pass rfl rfl rfl rfl ?_
                    refine JL.passU rfl rfl rfl ?_
                    refine JL.pass rfl rfl rfl rfl ?_
                    refine JL.pass rfl rfl rfl rfl ?_
                    refine JL.passU rfl rfl rfl ?_
                    refine JL.passU rfl rfl rfl ?_
                    refine JL.pass rfl rfl rfl rfl ?_
                    refine JL.pure rfl rfl ?_
                    refine JL.re 83 rfl (v' := .bool (twoB n (hasB a l[k]) (hasB b l[k]))) (by rw [← hxa, ← hxb]; unfold twoB; simp_all) ?_
                    refine JL.mapUpdate 1 H l[k] (twoB n (hasB a l[k]) (hasB b l[k])) rfl rfl rfl Try.underlying202 keyCell rfl rfl ?_
                    intro w9 H
                    refine JL.nil ?_
                    ((repeat refine Ex.normal_block ?_); refine Ex.next ?_)
                    ((repeat refine JC.seq ?_); refine JC.region ?_)
                    refine JL.pure rfl rfl ?_
                    refine JL.arith rfl (by unfold In64; omega) rfl ?_
                    refine JL.pure rfl rfl ?_
                    refine JL.nil ?_
                    (repeat refine Ex.normal_block ?_)
                    refine Ex.again (k + 1, mset m l[k] (twoB n (hasB a l[k]) (hasB b l[k]))) ⟨rfl, rfl, rfl, rfl, rfl, rfl, rfl, trivial⟩ ⟨h35, (hm.put l[k] _).congr fun c => ?_, H⟩ (by simp only; omega)
                    exact put_step (S := fun c => twoB n (hasB a c) (hasB b c) = true) (b := twoB n (hasB a l[k]) (hasB b l[k])) h35 Iff.rfl c
                  · intro h73
                    (try simp only [Bool.not_eq_true', Bool.not_eq_false', decide_eq_true_eq, decide_eq_false_iff_not] at h73)
                    refine JL.want rfl rfl ?_
                    refine JL.pure rfl rfl ?_
                    refine JL.want rfl rfl ?_
                    refine JL.pure rfl rfl ?_
                    refine JL.want rfl rfl ?_
                    refine JL.pure rfl rfl ?_
                    refine JL.cases 76 rfl ?_ ?_
                    · intro h76
                      (try simp only [Bool.not_eq_true', Bool.not_eq_false', decide_eq_true_eq, decide_eq_false_iff_not] at h76)
                      refine JL.want rfl rfl ?_
                      refine JL.pure rfl rfl ?_
                      refine JL.want rfl rfl ?_
                      refine JL.pure rfl rfl ?_
                      refine JL.want rfl rfl ?_
                      refine JL.pure rfl rfl ?_
                      refine JL.cases 79 rfl ?_ ?_
                      · intro h79
                        (try simp only [Bool.not_eq_true', Bool.not_eq_false', decide_eq_true_eq, decide_eq_false_iff_not] at h79)
                        refine JL.want rfl rfl ?_
                        refine JL.pure rfl rfl ?_
                        refine JL.want rfl rfl ?_
                        refine JL.pure rfl rfl ?_
                        refine JL.want rfl rfl ?_
                        refine JL.pure rfl rfl ?_
                        refine JL.pure rfl rfl ?_
                        refine JL.re 83 rfl (v' := .bool (twoB n (hasB a l[k]) (hasB b l[k]))) (by rw [← hxa, ← hxb]; unfold twoB; simp_all) ?_
                        refine JL.mapUpdate 1 H l[k] (twoB n (hasB a l[k]) (hasB b l[k])) rfl rfl rfl Try.underlying202 keyCell rfl rfl ?_
                        intro w10 H
                        refine JL.nil ?_
                        ((repeat refine Ex.normal_block ?_); refine Ex.next ?_)
                        ((repeat refine JC.seq ?_); refine JC.region ?_)
                        refine JL.pure rfl rfl ?_
                        refine JL.arith rfl (by unfold In64; omega) rfl ?_
                        refine JL.pure rfl rfl ?_
                        refine JL.nil ?_
                        (repeat refine Ex.normal_block ?_)
                        refine Ex.again (k + 1, mset m l[k] (twoB n (hasB a l[k]) (hasB b l[k]))) ⟨rfl, rfl, rfl, rfl, rfl, rfl, rfl, trivial⟩ ⟨h35, (hm.put l[k] _).congr fun c => ?_, H⟩ (by simp only; omega)
                        exact put_step (S := fun c => twoB n (hasB a c) (hasB b c) = true) (b := twoB n (hasB a l[k]) (hasB b l[k])) h35 Iff.rfl c
                      · intro h79
                        (try simp only [Bool.not_eq_true', Bool.not_eq_false', decide_eq_true_eq, decide_eq_false_iff_not] at h79)
                        refine JL.pass rfl rfl rfl rfl ?_
                        refine JL.pass rfl rfl rfl rfl ?_
                        refine JL.want rfl rfl ?_
                        refine JL.pure rfl rfl ?_
                        refine JL.pure rfl rfl ?_
                        refine JL.re 83 rfl (v' := .bool (twoB n (hasB a l[k]) (hasB b l[k]))) (by rw [← hxa, ← hxb]; unfold twoB; simp_all) ?_
                        refine JL.mapUpdate 1 H l[k] (twoB n (hasB a l[k]) (hasB b l[k])) rfl rfl rfl Try.underlying202 keyCell rfl rfl ?_
                        intro w11 H
                        refine JL.nil ?_
                        ((repeat refine Ex.normal_block ?_); refine Ex.next ?_)
                        ((repeat refine JC.seq ?_); refine JC.region ?_)
                        refine JL.pure rfl rfl ?_
                        refine JL.arith rfl (by unfold In64; omega) rfl ?_
                        refine JL.pure rfl rfl ?_
                        refine JL.nil ?_
                        (repeat refine Ex.normal_block ?_)
                        refine Ex.again (k + 1, mset m l[k] (twoB n (hasB a l[k]) (hasB b l[k]))) ⟨rfl, rfl, rfl, rfl, rfl, rfl, rfl, trivial⟩ ⟨h35, (hm.put l[k] _).congr fun c => ?_, H⟩ (by simp only; omega)
                        exact put_step (S := fun c => twoB n (hasB a c) (hasB b c) = true) (b := twoB n (hasB a l[k]) (hasB b l[k])) h35 Iff.rfl c
                    · intro h76
                      (try simp only [Bool.not_eq_true', Bool.not_eq_false', decide_eq_true_eq, decide_eq_false_iff_not] at h76)
                      refine JL.pass rfl rfl rfl rfl ?_
                      refine JL.want rfl rfl ?_
                      refine JL.pure rfl rfl ?_
                      refine JL.want rfl rfl ?_
                      refine JL.pure rfl rfl ?_
                      refine JL.pass rfl rfl rfl rfl ?_
                      refine JL.pass rfl rfl rfl rfl ?_
                      refine JL.want rfl rfl ?_
                      refine JL.pure rfl rfl ?_
                      refine JL.pure rfl rfl ?_
                      refine JL.re 83 rfl (v' := .bool (twoB n (hasB a l[k]) (hasB b l[k]))) (by rw [← hxa, ← hxb]; unfold twoB; simp_all) ?_
                      refine JL.mapUpdate 1 H l[k] (twoB n (hasB a l[k]) (hasB b l[k])) rfl rfl rfl Try.underlying202 keyCell rfl rfl ?_
                      intro w12 H
                      refine JL.nil ?_
                      ((repeat refine Ex.normal_block ?_); refine Ex.next ?_)
                      ((repeat refine JC.seq ?_); refine JC.region ?_)
                      refine JL.pure rfl rfl ?_
                      refine JL.arith rfl (by unfold In64; omega) rfl ?_
                      refine JL.pure rfl rfl ?_
                      refine JL.nil ?_
                      (repeat refine Ex.normal_block ?_)
                      refine Ex.again (k + 1, mset m l[k] (twoB n (hasB a l[k]) (hasB b l[k]))) ⟨rfl, rfl, rfl, rfl, rfl, rfl, rfl, trivial⟩ ⟨h35, (hm.put l[k] _).congr fun c => ?_, H⟩ (by simp only; omega)
                      exact put_step (S := fun c => twoB n (hasB a c) (hasB b c) = true) (b := twoB n (hasB a l[k]) (hasB b l[k])) h35 Iff.rfl c
                · intro h69
                  (try simp only [Bool.not_eq_true', Bool.not_eq_false', decide_eq_true_eq, decide_eq_false_iff_not] at h69)
                  refine JL.pass rfl rfl rfl rfl ?_
                  refine JL.want rfl rfl ?_
                  refine JL.pure rfl rfl ?_
                  refine JL.pure rfl rfl ?_
                  refine JL.pure rfl rfl ?_
                  refine JL.want rfl rfl ?_
                  refine JL.pure rfl rfl ?_
                  refine JL.want rfl rfl ?_
                  refine JL.pure rfl rfl ?_
                  refine JL.want rfl rfl ?_
                  refine JL.pure rfl rfl ?_
                  refine JL.cases 76 rfl ?_ ?_
                  · intro h76
                    (try simp only [Bool.not_eq_true', Bool.not_eq_false', decide_eq_true_eq, decide_eq_false_iff_not] at h76)
                    refine JL.want rfl rfl ?_
                    refine JL.pure rfl rfl ?_
                    refine JL.want rfl rfl ?_
                    refine JL.pure rfl rfl ?_
                    refine JL.want rfl rfl ?_
                    refine JL.pure rfl rfl ?_
                    refine JL.cases 79 rfl ?_ ?_
                    · intro h79
                      (try simp only [Bool.not_eq_true', Bool.not_eq_false', decide_eq_true_eq, decide_eq_false_iff_not] at h79)
                      refine JL.want rfl rfl ?_
                      refine JL.pure rfl rfl ?_
                      refine JL.want rfl rfl ?_
                      refine JL.pure rfl rfl ?_
                      refine JL.want rfl rfl ?_
                      refine JL.pure rfl rfl ?_
                      refine JL.pure rfl rfl ?_
                      refine JL.re 83 rfl (v' := .bool (twoB n (hasB a l[k]) (hasB b l[k]))) (by rw [← hxa, ← hxb]; unfold twoB; simp_all) ?_
                      refine JL.mapUpdate 1 H l[k] (twoB n (hasB a l[k]) (hasB b l[k])) rfl rfl rfl Try.underlying202 keyCell rfl rfl ?_
                      intro w13 H
                      refine JL.nil ?_
                      ((repeat refine Ex.normal_block ?_); refine Ex.next ?_)
                      ((repeat refine JC.seq ?_); refine JC.region ?_)
                      refine JL.pure rfl rfl ?_
                      refine JL.arith rfl (by unfold In64; omega) rfl ?_
                      refine JL.pure rfl rfl ?_
                      refine JL.nil ?_
                      (repeat refine Ex.normal_block ?_)
                      refine Ex.again (k + 1, mset m l[k] (twoB n (hasB a l[k]) (hasB b l[k]))) ⟨rfl, rfl, rfl, rfl, rfl, rfl, rfl, trivial⟩ ⟨h35, (hm.put l[k] _).congr fun c => ?_, H⟩ (by simp only; omega)
                      exact put_step (S := fun c => twoB n (hasB a c) (hasB b c) = true) (b := twoB n (hasB a l[k]) (hasB b l[k])) h35 Iff.rfl c
                    · intro h79
                      (try simp only [Bool.not_eq_true', Bool.not_eq_false', decide_eq_true_eq, decide_eq_false_iff_not] at h79)
                      refine JL.pass rfl rfl rfl rfl ?_
                      refine JL.pass rfl rfl rfl rfl ?_
                      refine JL.want rfl rfl ?_
                      refine JL.pure rfl rfl ?_
                      refine JL.pure rfl rfl ?_
                      refine JL.re 83 rfl (v' := .bool (twoB n (hasB a l[k]) (hasB b l[k]))) (by rw [← hxa, ← hxb]; unfold twoB; simp_all) ?_
                      refine JL.mapUpdate 1 H l[k] (twoB n (hasB a l[k]) (hasB b l[k])) rfl rfl rfl Try.underlying202 keyCell rfl rfl ?_
                      intro w14 H
                      refine JL.nil ?_
                      ((repeat refine Ex.normal_block ?_); refine Ex.next ?_)
                      ((repeat refine JC.seq ?_); refine JC.region ?_)
                      refine JL.pure rfl rfl ?_
                      refine JL.arith rfl (by unfold In64; omega) rfl ?_
                      refine JL.pure rfl rfl ?_
                      refine JL.nil ?_
                      (repeat refine Ex.normal_block ?_)
                      refine Ex.again (k + 1, mset m l[k] (twoB n (hasB a l[k]) (hasB b l[k]))) ⟨rfl, rfl, rfl, rfl, rfl, rfl, rfl, trivial⟩ ⟨h35, (hm.put l[k] _).congr fun c => ?_, H⟩ (by simp only; omega)
                      exact put_step (S := fun c => twoB n (hasB a c) (hasB b c) = true) (b := twoB n (hasB a l[k]) (hasB b l[k])) h35 Iff.rfl c
                  · intro h76
                    (try simp only [Bool.not_eq_true', Bool.not_eq_false', decide_eq_true_eq, decide_eq_false_iff_not] at h76)
                    refine JL.pass rfl rfl rfl rfl ?_
                    refine JL.want rfl rfl ?_
                    refine JL.pure rfl rfl ?_
                    refine JL.want rfl rfl ?_
                    refine JL.pure rfl rfl ?_
                    refine JL.pass rfl rfl rfl rfl ?_
                    refine JL.pass rfl rfl rfl rfl ?_
                    refine JL.want rfl rfl ?_
                    refine JL.pure rfl rfl ?_
                    refine JL.pure rfl rfl ?_
                    refine JL.re 83 rfl (v' := .bool (twoB n (hasB a l[k]) (hasB b l[k]))) (by rw [← hxa, ← hxb]; unfold twoB; simp_all) ?_
                    refine JL.mapUpdate 1 H l[k] (twoB n (hasB a l[k]) (hasB b l[k])) rfl rfl rfl Try.underlying202 keyCell rfl rfl ?_
                    intro w15 H
                    refine JL.nil ?_
                    ((repeat refine Ex.normal_block ?_); refine Ex.next ?_)
                    ((repeat refine JC.seq ?_); refine JC.region ?_)
                    refine JL.pure rfl rfl ?_
                    refine JL.arith rfl (by unfold In64; omega) rfl ?_
                    refine JL.pure rfl rfl ?_
                    refine JL.nil ?_
                    (repeat refine Ex.normal_block ?_)
                    refine Ex.again (k + 1, mset m l[k] (twoB n (hasB a l[k]) (hasB b l[k]))) ⟨rfl, rfl, rfl, rfl, rfl, rfl, rfl, trivial⟩ ⟨h35, (hm.put l[k] _).congr fun c => ?_, H⟩ (by simp only; omega)
                    exact put_step (S := fun c => twoB n (hasB a c) (hasB b c) = true) (b := twoB n (hasB a l[k]) (hasB b l[k])) h35 Iff.rfl c
              · intro h66
                (try simp only [Bool.not_eq_true', Bool.not_eq_false', decide_eq_true_eq, decide_eq_false_iff_not] at h66)
                refine JL.pass rfl rfl rfl rfl ?_
                refine JL.want rfl rfl ?_
                refine JL.pure rfl rfl ?_
                refine JL.want rfl rfl ?_
                refine JL.pure rfl rfl ?_
                refine JL.pass rfl rfl rfl rfl ?_
                refine JL.want rfl rfl ?_
                refine JL.pure rfl rfl ?_
                refine JL.pure rfl rfl ?_
                refine JL.pure rfl rfl ?_
                refine JL.want rfl rfl ?_
                refine JL.pure rfl rfl ?_
                refine JL.want rfl rfl ?_
                refine JL.pure rfl rfl ?_
                refine JL.want rfl rfl ?_
                refine JL.pure rfl rfl ?_
                refine JL.cases 76 rfl ?_ ?_
                · intro h76
                  (try simp only [Bool.not_eq_true', Bool.not_eq_false', decide_eq_true_eq, decide_eq_false_iff_not] at h76)
                  refine JL.want rfl rfl ?_
                  refine JL.pure rfl rfl ?_
                  refine JL.want rfl rfl ?_
                  refine JL.pure rfl rfl ?_
                  refine JL.want rfl rfl ?_
                  refine JL.pure rfl rfl ?_
                  refine JL.cases 79 rfl ?_ ?_
                  · intro h79
                    (try simp only [Bool.not_eq_true', Bool.not_eq_false', decide_eq_true_eq, decide_eq_false_iff_not] at h79)
                    refine JL.want rfl rfl ?_
                    refine JL.pure rfl rfl ?_
                    refine JL.want rfl rfl ?_
                    refine JL.pure rfl rfl ?_
                    refine JL.want rfl rfl ?_
                    refine JL.pure rfl rfl ?_
                    refine JL.pure rfl rfl ?_
                    refine JL.re 83 rfl (v' := .bool (twoB n (hasB a l[k]) (hasB b l[k]))) (by rw [← hxa, ← hxb]; unfold twoB; simp_all) ?_
                    refine JL.mapUpdate 1 H l[k] (twoB n (hasB a l[k]) (hasB b l[k])) rfl rfl rfl Try.underlying202 keyCell rfl rfl ?_
                    intro w16 H
                    refine JL.nil ?_
                    ((repeat refine Ex.normal_block ?_); refine Ex.next ?_)
                    ((repeat refine JC.seq ?_); refine JC.region ?_)
                    refine JL.pure rfl rfl ?_
                    refine JL.arith rfl (by unfold In64; omega) rfl ?_
                    refine JL.pure rfl rfl ?_
                    refine JL.nil ?_
                    (repeat refine Ex.normal_block ?_)
                    refine Ex.again (k + 1, mset m l[k] (twoB n (hasB a l[k]) (hasB b l[k]))) ⟨rfl, rfl, rfl, rfl, rfl, rfl, rfl, trivial⟩ ⟨h35, (hm.put l[k] _).congr fun c => ?_, H⟩ (by simp only; omega)
                    exact put_step (S := fun c => twoB n (hasB a c) (hasB b c) = true) (b := twoB n (hasB a l[k]) (hasB b l[k])) h35 Iff.rfl c
                  · intro h79
                    (try simp only [Bool.not_eq_true', Bool.not_eq_false', decide_eq_true_eq, decide_eq_false_iff_not] at h79)
                    refine JL.pass rfl rfl rfl rfl ?_
                    refine JL.pass rfl rfl rfl rfl ?_
                    refine JL.want rfl rfl ?_
                    refine JL.pure rfl rfl ?_
                    refine JL.pure rfl rfl ?_
                    refine JL.re 83 rfl (v' := .bool (twoB n (hasB a l[k]) (hasB b l[k]))) (by rw [← hxa, ← hxb]; unfold twoB; simp_all) ?_
                    refine JL.mapUpdate 1 H l[k] (twoB n (hasB a l[k]) (hasB b l[k])) rfl rfl rfl Try.underlying202 keyCell rfl rfl ?_
                    intro w17 H
                    refine JL.nil ?_
                    ((repeat refine Ex.normal_block ?_); refine Ex.next ?_)
                    ((repeat refine JC.seq ?_); refine JC.region ?_)
                    refine JL.pure rfl rfl ?_
                    refine JL.arith rfl (by unfold In64; omega) rfl ?_
                    refine JL.pure rfl rfl ?_
                    refine JL.nil ?_
                    (repeat refine Ex.normal_block ?_)
                    refine Ex.again (k + 1, mset m l[k] (twoB n (hasB a l[k]) (hasB b l[k]))) ⟨rfl, rfl, rfl, rfl, rfl, rfl, rfl, trivial⟩ ⟨h35, (hm.put l[k] _).congr fun c => ?_, H⟩ (by simp only; omega)
                    exact put_step (S := fun c => twoB n (hasB a c) (hasB b c) = true) (b := twoB n (hasB a l[k]) (hasB b l[k])) h35 Iff.rfl c
                · intro h76
                  (try simp only [Bool.not_eq_true', Bool.not_eq_false', decide_eq_true_eq, decide_eq_false_iff_not] at h76)
                  refine JL.pass rfl rfl rfl rfl ?_
                  refine JL.want rfl rfl ?_
                  refine JL.pure rfl rfl ?_
                  refine JL.want rfl rfl ?_
                  refine JL.pure rfl rfl ?_
                  refine JL.pass rfl rfl rfl rfl ?_
                  refine JL.pass rfl rfl rfl rfl ?_
                  refine JL.want rfl rfl ?_
                  refine JL.pure rfl rfl ?_
                  refine JL.pure rfl rfl ?_
                  refine JL.re 83 rfl (v' := .bool (twoB n (hasB a l[k]) (hasB b l[k]))) (by rw [← hxa, ← hxb]; unfold twoB; simp_all) ?_
                  refine JL.mapUpdate 1 H l[k] (twoB n (hasB a l[k]) (hasB b l[k])) rfl rfl rfl Try.underlying202 keyCell rfl rfl ?_
                  intro w18 H
                  refine JL.nil ?_
                  ((repeat refine Ex.normal_block ?_); refine Ex.next ?_)
                  ((repeat refine JC.seq ?_); refine JC.region ?_)
                  refine JL.pure rfl rfl ?_
                  refine JL.arith rfl (by unfold In64; omega) rfl ?_
                  refine JL.pure rfl rfl ?_
                  refine JL.nil ?_
                  (repeat refine Ex.normal_block ?_)
                  refine Ex.again (k + 1, mset m l[k] (twoB n (hasB a l[k]) (hasB b l[k]))) ⟨rfl, rfl, rfl, rfl, rfl, rfl, rfl, trivial⟩ ⟨h35, (hm.put l[k] _).congr fun c => ?_, H⟩ (by simp only; omega)
                  exact put_step (S := fun c => twoB n (hasB a c) (hasB b c) = true) (b := twoB n (hasB a l[k]) (hasB b l[k])) h35 Iff.rfl c
        · intro h57
          (try simp only [Bool.not_eq_true', Bool.not_eq_false', decide_eq_true_eq, decide_eq_false_iff_not] at h57)
          refine JL.pass rfl rfl rfl rfl ?_
          refine JL.pass rfl rfl rfl rfl ?_
          refine JL.passU rfl rfl rfl ?_
          refine JL.pass rfl rfl rfl rfl ?_
          refine JL.pure rfl rfl ?_
          refine JL.pure rfl rfl ?_
          refine JL.want rfl rfl ?_
          refine JL.pure rfl rfl ?_
          refine JL.want rfl rfl ?_
          refine JL.pure rfl rfl ?_
          refine JL.want rfl rfl ?_
          refine JL.pure rfl rfl ?_
          refine JL.cases 66 rfl ?_ ?_
          · intro h66
            (try simp only [Bool.not_eq_true', Bool.not_eq_false', decide_eq_true_eq, decide_eq_false_iff_not] at h66)
            refine JL.want rfl rfl ?_
            refine JL.pure rfl rfl ?_
            refine JL.want rfl rfl ?_
            refine JL.pure rfl rfl ?_
            refine JL.want rfl rfl ?_
            refine JL.pure rfl rfl ?_
            refine JL.cases 69 rfl ?_ ?_
            · intro h69
              (try simp only [Bool.not_eq_true', Bool.not_eq_false', decide_eq_true_eq, decide_eq_false_iff_not] at h69)
              refine JL.want rfl rfl ?_
              refine JL.pure rfl rfl ?_
              refine JL.want rfl rfl ?_
              refine JL.pure rfl rfl ?_
              refine JL.pure rfl rfl ?_
              refine JL.pure rfl rfl ?_
              refine JL.cases 73 rfl ?_ ?_
              · intro h73
                (try simp only [Bool.not_eq_true', Bool.not_eq_false', decide_eq_true_eq, decide_eq_false_iff_not] at h73)
                refine JL.pass rfl rfl rfl rfl ?_
                refine JL.pass rfl rfl rfl rfl ?_
                refine JL.pass rfl rfl rfl rfl ?_
                refine JL.passU rfl rfl rfl ?_
                refine JL.pass rfl rfl rfl rfl ?_
                refine JL.pass rfl rfl rfl rfl ?_
                refine JL.passU rfl rfl rfl ?_
                refine JL.passU rfl rfl rfl ?_
                refine JL.pass rfl rfl rfl rfl ?_
                refine JL.pure rfl rfl ?_
                refine JL.re 83 rfl (v' := .bool (twoB n (hasB a l[k]) (hasB b l[k]))) (by rw [← hxa, ← hxb]; unfold twoB; simp_all) ?_
                refine JL.mapUpdate 1 H l[k] (twoB n (hasB a l[k]) (hasB b l[k])) rfl rfl rfl Try.underlying202 keyCell rfl rfl ?_
                intro w19 H
                refine JL.nil ?_
                ((repeat refine Ex.normal_block ?_); refine Ex.next ?_)
                ((repeat refine JC.seq ?_); refine JC.region ?_)
                refine JL.pure rfl rfl ?_
                refine JL.arith rfl (by unfold In64; omega) rfl ?_
                refine JL.pure rfl rfl ?_
                refine JL.nil ?_
                (repeat refine Ex.normal_block ?_)
                refine Ex.again (k + 1, mset m l[k] (twoB n (hasB a l[k]) (hasB b l[k]))) ⟨rfl, rfl, rfl, rfl, rfl, rfl, rfl, trivial⟩ ⟨h35, (hm.put l[k] _).congr fun c => ?_, H⟩ (by simp only; omega)
                exact put_step (S := fun c => twoB n (hasB a c) (hasB b c) = true) (b := twoB n (hasB a l[k]) (hasB b l[k])) h35 Iff.rfl c
              · intro h73
                (try simp only [Bool.not_eq_true', Bool.not_eq_false', decide_eq_true_eq, decide_eq_false_iff_not] at h73)
                refine JL.want rfl rfl ?_
                refine JL.pure rfl rfl ?_
                refine JL.want rfl rfl ?_
                refine JL.pure rfl rfl ?_
                refine JL.want rfl rfl ?_
                refine JL.pure rfl rfl ?_
                refine JL.cases 76 rfl ?_ ?_
                · intro h76
                  (try simp only [Bool.not_eq_true', Bool.not_eq_false', decide_eq_true_eq, decide_eq_false_iff_not] at h76)
                  refine JL.want rfl rfl ?_
                  refine JL.pure rfl rfl ?_
                  refine JL.want rfl rfl ?_
                  refine JL.pure rfl rfl ?_
                  refine JL.want rfl rfl ?_
                  refine JL.pure rfl rfl ?_
                  refine JL.cases 79 rfl ?_ ?_
                  · intro h79
                    (try simp only [Bool.not_eq_true', Bool.not_eq_false', decide_eq_true_eq, decide_eq_false_iff_not] at h79)
                    refine JL.want rfl rfl ?_
                    refine JL.pure rfl rfl ?_
                    refine JL.want rfl rfl ?_
                    refine JL.pure rfl rfl ?_
                    refine JL.want rfl rfl ?_
                    refine JL.pure rfl rfl ?_
                    refine JL.pure rfl rfl ?_
                    refine JL.re 83 rfl (v' := .bool (twoB n (hasB a l[k]) (hasB b l[k]))) (by rw [← hxa, ← hxb]; unfold twoB; simp_all) ?_
                    refine JL.mapUpdate 1 H l[k] (twoB n (hasB a l[k]) (hasB b l[k])) rfl rfl rfl Try.underlying202 keyCell rfl rfl ?_
                    intro w20 H
                    refine JL.nil ?_
                    ((repeat refine Ex.normal_block ?_); refine Ex.next ?_)
                    ((repeat refine JC.seq ?_); refine JC.region ?_)
                    refine JL.pure rfl rfl ?_
                    refine JL.arith rfl (by unfold In64; omega) rfl ?_
                    refine JL.pure rfl rfl ?_
                    refine JL.nil ?_
                    (repeat refine Ex.normal_block ?_)
                    refine Ex.again (k + 1, mset m l[k] (twoB n (hasB a l[k]) (hasB b l[k]))) ⟨rfl, rfl, rfl, rfl, rfl, rfl, rfl, trivial⟩ ⟨h35, (hm.put l[k] _).congr fun c => ?_, H⟩ (by simp only; omega)
                    exact put_step (S := fun c => twoB n (hasB a c) (hasB b c) = true) (b := twoB n (hasB a l[k]) (hasB b l[k])) h35 Iff.rfl c
                  · intro h79
                    (try simp only [Bool.not_eq_true', Bool.not_eq_false', decide_eq_true_eq, decide_eq_false_iff_not] at h79)
                    refine JL.pass rfl rfl rfl rfl ?_
                    refine JL.pass rfl rfl rfl rfl ?_
                    refine JL.want rfl rfl ?_
                    refine JL.pure rfl rfl ?_
                    refine JL.pure rfl rfl ?_
                    refine JL.re 83 rfl (v' := .bool (twoB n (hasB a l[k]) (hasB b l[k]))) (by rw [← hxa, ← hxb]; unfold twoB; simp_all) ?_
                    refine JL.mapUpdate 1 H l[k] (twoB n (hasB a l[k]) (hasB b l[k])) rfl rfl rfl Try.underlying202 keyCell rfl rfl ?_
                    intro w21 H
                    refine JL.nil ?_
                    ((repeat refine Ex.normal_block ?_); refine Ex.next ?_)
                    ((repeat refine JC.seq ?_); refine JC.region ?_)
                    refine JL.pure rfl rfl ?_
                    refine JL.arith rfl (by unfold In64; omega) rfl ?_
                    refine JL.pure rfl rfl ?_
                    refine JL.nil ?_
                    (repeat refine Ex.normal_block ?_)
                    refine Ex.again (k + 1, mset m l[k] (twoB n (hasB a l[k]) (hasB b l[k]))) ⟨rfl, rfl, rfl, rfl, rfl, rfl, rfl, trivial⟩ ⟨h35, (hm.put l[k] _).congr fun c => ?_, H⟩ (by simp only; omega)
                    exact put_step (S := fun c => twoB n (hasB a c) (hasB b c) = true) (b := twoB n (hasB a l[k]) (hasB b l[k])) h35 Iff.rfl c
                · intro h76
                  (try simp only [Bool.not_eq_true', Bool.not_eq_false', decide_eq_true_eq, decide_eq_false_iff_not] at h76)
                  refine JL.pass rfl rfl rfl rfl ?_
                  refine JL.want rfl rfl ?_
                  refine JL.pure rfl rfl ?_
                  refine JL.want rfl rfl ?_
                  refine JL.pure rfl rfl ?_
                  refine JL.pass rfl rfl rfl rfl ?_
                  refine JL.pass rfl rfl rfl rfl ?_
                  refine JL.want rfl rfl ?_
                  refine JL.pure rfl rfl ?_
                  refine JL.pure rfl rfl ?_
                  refine JL.re 83 rfl (v' := .bool (twoB n (hasB a l[k]) (hasB b l[k]))) (by rw [← hxa, ← hxb]; unfold twoB; simp_all) ?_
                  refine JL.mapUpdate 1 H l[k] (twoB n (hasB a l[k]) (hasB b l[k])) rfl rfl rfl Try.underlying202 keyCell rfl rfl ?_
                  intro w22 H
                  refine JL.nil ?_
                  ((repeat refine Ex.normal_block ?_); refine Ex.next ?_)
                  ((repeat refine JC.seq ?_); refine JC.region ?_)
                  refine JL.pure rfl rfl ?_
                  refine JL.arith rfl (by unfold In64; omega) rfl ?_
                  refine JL.pure rfl rfl ?_
                  refine JL.nil ?_
                  (repeat refine Ex.normal_block ?_)
                  refine Ex.again (k + 1, mset m l[k] (twoB n (hasB a l[k]) (hasB b l[k]))) ⟨rfl, rfl, rfl, rfl, rfl, rfl, rfl, trivial⟩ ⟨h35, (hm.put l[k] _).congr fun c => ?_, H⟩ (by simp only; omega)
                  exact put_step (S := fun c => twoB n (hasB a c) (hasB b c) = true) (b := twoB n (hasB a l[k]) (hasB b l[k])) h35 Iff.rfl c
            · intro h69
              (try simp only [Bool.not_eq_true', Bool.not_eq_false', decide_eq_true_eq, decide_eq_false_iff_not] at h69)
              refine JL.pass rfl rfl rfl rfl ?_
              refine JL.want rfl rfl ?_
              refine JL.pure rfl rfl ?_
              refine JL.pure rfl rfl ?_
              refine JL.pure rfl rfl ?_
              refine JL.want rfl rfl ?_
              refine JL.pure rfl rfl ?_
              refine JL.want rfl rfl ?_
              refine JL.pure rfl rfl ?_
              refine JL.want rfl rfl ?_
              refine JL.pure rfl rfl ?_
              refine JL.cases 76 rfl ?_ ?_
              · intro h76
                (try simp only [Bool.not_eq_true', Bool.not_eq_false', decide_eq_true_eq, decide_eq_false_iff_not] at h76)
                refine JL.want rfl rfl ?_
                refine JL.pure rfl rfl ?_
                refine JL.want rfl rfl ?_
                refine JL.pure rfl rfl ?_
                refine JL.want rfl rfl ?_
                refine JL.pure rfl rfl ?_
                refine JL.cases 79 rfl ?_ ?_
                · intro h79
                  (try simp only [Bool.not_eq_true', Bool.not_eq_false', decide_eq_true_eq, decide_eq_false_iff_not] at h79)
                  refine JL.want rfl rfl ?_
                  refine JL.pure rfl rfl ?_
                  refine JL.want rfl rfl ?_
                  refine JL.pure rfl rfl ?_
                  refine JL.want rfl rfl ?_
                  refine JL.pure rfl rfl ?_
                  refine JL.pure rfl rfl ?_
                  refine JL.re 83 rfl (v' := .bool (twoB n (hasB a l[k]) (hasB b l[k]))) (by rw [← hxa, ← hxb]; unfold twoB; simp_all) ?_
                  refine JL.mapUpdate 1 H l[k] (twoB n (hasB a l[k]) (hasB b l[k])) rfl rfl rfl Try.underlying202 keyCell rfl rfl ?_
                  intro w23 H
                  refine JL.nil ?_
                  ((repeat refine Ex.normal_block ?_); refine Ex.next ?_)
                  ((repeat refine JC.seq ?_); refine JC.region ?_)
                  refine JL.pure rfl rfl ?_
                  refine JL.arith rfl (by unfold In64; omega) rfl ?_
                  refine JL.pure rfl rfl ?_
                  refine JL.nil ?_
                  (repeat refine Ex.normal_block ?_)
                  refine Ex.again (k + 1, mset m l[k] (twoB n (hasB a l[k]) (hasB b l[k]))) ⟨rfl, rfl, rfl, rfl, rfl, rfl, rfl, trivial⟩ ⟨h35, (hm.put l[k] _).congr fun c => ?_, H⟩ (by simp only; omega)
                  exact put_step (S := fun c => twoB n (hasB a c) (hasB b c) = true) (b := twoB n (hasB a l[k]) (hasB b l[k])) h35 Iff.rfl c
                · intro h79
                  (try simp only [Bool.not_eq_true', Bool.not_eq_false', decide_eq_true_eq, decide_eq_false_iff_not] at h79)
                  refine JL.pass rfl rfl rfl rfl ?_
                  refine JL.pass rfl rfl rfl rfl ?_
                  refine JL.want rfl rfl ?_
                  refine JL.pure rfl rfl ?_
                  refine JL.pure rfl rfl ?_
                  refine JL.re 83 rfl (v' := .bool (twoB n (hasB a l[k]) (hasB b l[k]))) (by rw [← hxa, ← hxb]; unfold twoB; simp_all) ?_
                  refine JL.mapUpdate 1 H l[k] (twoB n (hasB a l[k]) (hasB b l[k])) rfl rfl rfl Try.underlying202 keyCell rfl rfl ?_
                  intro w24 H
                  refine JL.nil ?_
                  ((repeat refine Ex.normal_block ?_); refine Ex.next ?_)
                  ((repeat refine JC.seq ?_); refine JC.region ?_)
                  refine JL.pure rfl rfl ?_
                  refine JL.arith rfl (by unfold In64; omega) rfl ?_
                  refine JL.pure rfl rfl ?_
                  refine JL.nil ?_
                  (repeat refine Ex.normal_block ?_)
                  refine Ex.again (k + 1, mset m l[k] (twoB n (hasB a l[k]) (hasB b l[k]))) ⟨rfl, rfl, rfl, rfl, rfl, rfl, rfl, trivial⟩ ⟨h35, (hm.put l[k] _).congr fun c => ?_, H⟩ (by simp only; omega)
                  exact put_step (S := fun c => twoB n (hasB a c) (hasB b c) = true) (b := twoB n (hasB a l[k]) (hasB b l[k])) h35 Iff.rfl c
              · intro h76
                (try simp only [Bool.not_eq_true', Bool.not_eq_false', decide_eq_true_eq, decide_eq_false_iff_not] at h76)
                refine JL.pass rfl rfl rfl rfl ?_
                refine JL.want rfl rfl ?_
                refine JL.pure rfl rfl ?_
                refine JL.want rfl rfl ?_
                refine JL.pure rfl rfl ?_
                refine JL.pass rfl rfl rfl rfl ?_
                refine JL.pass rfl rfl rfl rfl ?_
                refine JL.want rfl rfl ?_
                refine JL.pure rfl rfl ?_
                refine JL.pure rfl rfl ?_
                refine JL.re 83 rfl (v' := .bool (twoB n (hasB a l[k]) (hasB b l[k]))) (by rw [← hxa, ← hxb]; unfold twoB; simp_all) ?_
                refine JL.mapUpdate 1 H l[k] (twoB n (hasB a l[k]) (hasB b l[k])) rfl rfl rfl Try.underlying202 keyCell rfl rfl ?_
                intro w25 H
                refine JL.nil ?_
                ((repeat refine Ex.normal_block ?_); refine Ex.next ?_)
                ((repeat refine JC.seq ?_); refine JC.region ?_)
                refine JL.pure rfl rfl ?_
                refine JL.arith rfl (by unfold In64; omega) rfl ?_
                refine JL.pure rfl rfl ?_
                refine JL.nil ?_
                (repeat refine Ex.normal_block ?_)
                refine Ex.again (k + 1, mset m l[k] (twoB n (hasB a l[k]) (hasB b l[k]))) ⟨rfl, rfl, rfl, rfl, rfl, rfl, rfl, trivial⟩ ⟨h35, (hm.put l[k] _).congr fun c => ?_, H⟩ (by simp only; omega)
                exact put_step (S := fun c => twoB n (hasB a c) (hasB b c) = true) (b := twoB n (hasB a l[k]) (hasB b l[k])) h35 Iff.rfl c
          · intro h66
            (try simp only [Bool.not_eq_true', Bool.not_eq_false', decide_eq_true_eq, decide_eq_false_iff_not] at h66)
            refine JL.pass rfl rfl rfl rfl ?_
            refine JL.want rfl rfl ?_
            refine JL.pure rfl rfl ?_
            refine JL.want rfl rfl ?_
            refine JL.pure rfl rfl ?_
            refine JL.pass rfl rfl rfl rfl ?_
            refine JL.want rfl rfl ?_
            refine JL.pure rfl rfl ?_
            refine JL.pure rfl rfl ?_
            refine JL.pure rfl rfl ?_
            refine JL.want rfl rfl ?_
            refine JL.pure rfl rfl ?_
            refine JL.want rfl rfl ?_
            refine JL.pure rfl rfl ?_
            refine JL.want rfl rfl ?_
            refine JL.pure rfl rfl ?_
            refine JL.cases 76 rfl ?_ ?_
            · intro h76
              (try simp only [Bool.not_eq_true', Bool.not_eq_false', decide_eq_true_eq, decide_eq_false_iff_not] at h76)
              refine JL.want rfl rfl ?_
              refine JL.pure rfl rfl ?_
              refine JL.want rfl rfl ?_
              refine JL.pure rfl rfl ?_
              refine JL.want rfl rfl ?_
              refine JL.pure rfl rfl ?_
              refine JL.cases 79 rfl ?_ ?_
              · intro h79
                (try simp only [Bool.not_eq_true', Bool.not_eq_false', decide_eq_true_eq, decide_eq_false_iff_not] at h79)
                refine JL.want rfl rfl ?_
                refine JL.pure rfl rfl ?_
                refine JL.want rfl rfl ?_
                refine JL.pure rfl rfl ?_
                refine JL.want rfl rfl ?_
                refine JL.pure rfl rfl ?_
                refine JL.pure rfl rfl ?_
                refine JL.re 83 rfl (v' := .bool (twoB n (hasB a l[k]) (hasB b l[k]))) (by rw [← hxa, ← hxb]; unfold twoB; simp_all) ?_
                refine JL.mapUpdate 1 H l[k] (twoB n (hasB a l[k]) (hasB b l[k])) rfl rfl rfl Try.underlying202 keyCell rfl rfl ?_
                intro w26 H
                refine JL.nil ?_
                ((repeat refine Ex.normal_block ?_); refine Ex.next ?_)
                ((repeat refine JC.seq ?_); refine JC.region ?_)
                refine JL.pure rfl rfl ?_
                refine JL.arith rfl (by unfold In64; omega) rfl ?_
                refine JL.pure rfl rfl ?_
                refine JL.nil ?_
                (repeat refine Ex.normal_block ?_)
                refine Ex.again (k + 1, mset m l[k] (twoB n (hasB a l[k]) (hasB b l[k]))) ⟨rfl, rfl, rfl, rfl, rfl, rfl, rfl, trivial⟩ ⟨h35, (hm.put l[k] _).congr fun c => ?_, H⟩ (by simp only; omega)
                exact put_step (S := fun c => twoB n (hasB a c) (hasB b c) = true) (b := twoB n (hasB a l[k]) (hasB b l[k])) h35 Iff.rfl c
              · intro h79
                (try simp only [Bool.not_eq_true', Bool.not_eq_false', decide_eq_true_eq, decide_eq_false_iff_not] at h79)
                refine JL.pass rfl rfl rfl rfl ?_
                refine JL.pass rfl rfl rfl rfl ?_
                refine JL.want rfl rfl ?_
                refine JL.pure rfl rfl ?_
                refine JL.pure rfl rfl ?_
                refine JL.re 83 rfl (v' := .bool (twoB n (hasB a l[k]) (hasB b l[k]))) (by rw [← hxa, ← hxb]; unfold twoB; simp_all) ?_
                refine JL.mapUpdate 1 H l[k] (twoB n (hasB a l[k]) (hasB b l[k])) rfl rfl rfl Try.underlying202 keyCell rfl rfl ?_
                intro w27 H
                refine JL.nil ?_
                ((repeat refine Ex.normal_block ?_); refine Ex.next ?_)
                ((repeat refine JC.seq ?_); refine JC.region ?_)
                refine JL.pure rfl rfl ?_
                refine JL.arith rfl (by unfold In64; omega) rfl ?_
                refine JL.pure rfl rfl ?_
                refine JL.nil ?_
                (repeat refine Ex.normal_block ?_)
                refine Ex.again (k + 1, mset m l[k] (twoB n (hasB a l[k]) (hasB b l[k]))) ⟨rfl, rfl, rfl, rfl, rfl, rfl, rfl, trivial⟩ ⟨h35, (hm.put l[k] _).congr fun c => ?_, H⟩ (by simp only; omega)
                exact put_step (S := fun c => twoB n (hasB a c) (hasB b c) = true) (b := twoB n (hasB a l[k]) (hasB b l[k])) h35 Iff.rfl c
            · intro h76
              (try simp only [Bool.not_eq_true', Bool.not_eq_false', decide_eq_true_eq, decide_eq_false_iff_not] at h76)
              refine JL.pass rfl rfl rfl rfl ?_
              refine JL.want rfl rfl ?_
              refine JL.pure rfl rfl ?_
              refine JL.want rfl rfl ?_
              refine JL.pure rfl rfl ?_
              refine JL.pass rfl rfl rfl rfl ?_
              refine JL.pass rfl rfl rfl rfl ?_
              refine JL.want rfl rfl ?_
              refine JL.pure rfl rfl ?_
              refine JL.pure rfl rfl ?_
              refine JL.re 83 rfl (v' := .bool (twoB n (hasB a l[k]) (hasB b l[k]))) (by rw [← hxa, ← hxb]; unfold twoB; simp_all) ?_
              refine JL.mapUpdate 1 H l[k] (twoB n (hasB a l[k]) (hasB b l[k])) rfl rfl rfl Try.underlying202 keyCell rfl rfl ?_
              intro w28 H
              refine JL.nil ?_
              ((repeat refine Ex.normal_block ?_); refine Ex.next ?_)
              ((repeat refine JC.seq ?_); refine JC.region ?_)
              refine JL.pure rfl rfl ?_
              refine JL.arith rfl (by unfold In64; omega) rfl ?_
              refine JL.pure rfl rfl ?_
              refine JL.nil ?_
              (repeat refine Ex.normal_block ?_)
              refine Ex.again (k + 1, mset m l[k] (twoB n (hasB a l[k]) (hasB b l[k]))) ⟨rfl, rfl, rfl, rfl, rfl, rfl, rfl, trivial⟩ ⟨h35, (hm.put l[k] _).congr fun c => ?_, H⟩ (by simp only; omega)
              exact put_step (S := fun c => twoB n (hasB a c) (hasB b c) = true) (b := twoB n (hasB a l[k]) (hasB b l[k])) h35 Iff.rfl c
      · intro h35
        (try simp only [Bool.not_eq_true', Bool.not_eq_false', decide_eq_true_eq, decide_eq_false_iff_not] at h35)
        have hkk : k = l.length := by omega
        subst hkk
        rw [List.take_length] at hm
        ((repeat refine JC.seq ?_); refine JC.exit ?_)
        (repeat (first | refine Ex.exit_then ?_ | refine Ex.exit_miss (by decide) ?_))
        refine Ex.exit_hit ?_
        ((repeat refine Ex.normal_block ?_); refine Ex.next ?_)
        ((repeat refine JC.seq ?_); refine JC.region ?_)
        refine JL.loadB 5 H rfl sh52 rfl rfl rfl ?_
        refine JL.pure rfl rfl ?_
        refine JL.call fb173 rfl rfl (runs_c g _ β m _ (hl.grow H.below) (by omega) (by omega) (H.mapAt (i := 1) rfl)) ?_
        rintro _ w29 ⟨rv, rfl, K⟩
        have H := H.join K
        refine ⟨_, rfl, ?_⟩
        refine JL.pure rfl rfl ?_
        refine JL.pure rfl rfl ?_
        refine JL.pure rfl rfl ?_
        refine JL.pure rfl rfl ?_
        refine JL.nil ?_
        ((repeat refine Ex.normal_block ?_); refine Ex.next ?_)
        ((repeat refine JC.seq ?_); refine JC.ret ?_)
        (repeat (first | refine Ex.ret_then ?_ | refine Ex.ret_block ?_))
        refine Ex.ret2 rfl (.tmp rfl) (.tmp rfl) ?_
        subst hev
        unfold twoR; rw [hok]
        rw [if_pos rfl, runsR_congr (by omega) (by omega) (fun c hc => (set_all (by omega) (by omega) hm c hc).symm)]
        exact ⟨_, rfl, (((((H.drop 1).drop 1).drop 1).drop 1).drop 1).drop 1⟩
end Go.J

namespace Go.J
set_option linter.unusedSimpArgs false
set_option linter.unusedVariables false
theorem canon_snoc {W H : Int} {rs : List Run} {r : Run} (h : Canon W H rs) (h1 : rowIn W H r) (h2 : ∀ s ∈ rs, s.Y < r.Y ∨ s.Y = r.Y ∧ s.To < r.From) : Canon W H (rs ++ [r]) := by
  unfold rowIn at h1
  refine ⟨fun x hx => ?_, List.pairwise_append.2 ⟨h.ord, by simp, fun s hs x hx => ?_⟩⟩
  · rcases List.mem_append.1 hx with hx | hx
    · exact h.rng x hx
    · simp only [List.mem_singleton] at hx
      subst hx
      omega
  · simp only [List.mem_singleton] at hx
    subst hx
    exact h2 s hs
theorem eitherR_two (g : Grid) (a b : List Run) : eitherR g a b = twoR 0 g a b := by
  unfold eitherR twoR
  cases hc : checkedB g [a, b] with
  | false => rfl
  | true =>
    simp only [if_true]
    obtain ⟨hg, hall⟩ := checkedB_b hc
    obtain ⟨hW, hH, _, _⟩ := Grid.ok_b hg
    have ha := canon_of_right (hall a (by simp))
    have hb := canon_of_right (hall b (by simp))
    refine regRes_runs (by omega) (by omega) (addAll_good (a ++ b) (tab0_good g.W)) (addAll_low _ (tab0_low _)) _ fun c => ?_
    rw [either_has hg ha hb]
    have : twoB 0 (hasB a c) (hasB b c) = true ↔ hasB a c = true ∨ hasB b c = true := by unfold twoB; simp
    rw [this]
    exact ⟨fun h => ⟨h.elim (canon_inG ha) (canon_inG hb), h⟩, fun h => h.2⟩
theorem bothR_two (g : Grid) (a b : List Run) : bothR g a b = twoR 1 g a b := by
  unfold bothR twoR
  cases hc : checkedB g [a, b] with
  | false => rfl
  | true =>
    simp only [if_true]
    obtain ⟨hg, hall⟩ := checkedB_b hc
    obtain ⟨hW, hH, _, _⟩ := Grid.ok_b hg
    have ha := canon_of_right (hall a (by simp))
    have hb := canon_of_right (hall b (by simp))
    refine regRes_runs (by omega) (by omega) (bothT_good g a b) (bothN_low _ _ _ _ (tab0_low _)) _ fun c => ?_
    rw [both_has hg ha hb]
    have : twoB 1 (hasB a c) (hasB b c) = true ↔ hasB a c = true ∧ hasB b c = true := by unfold twoB; simp
    rw [this]
    exact ⟨fun h => ⟨canon_inG ha h.1, h⟩, fun h => h.2⟩
theorem withoutR_two (g : Grid) (a b : List Run) : withoutR g a b = twoR 2 g a b := by
  unfold withoutR twoR
  cases hc : checkedB g [a, b] with
  | false => rfl
  | true =>
    simp only [if_true]
    obtain ⟨hg, hall⟩ := checkedB_b hc
    obtain ⟨hW, hH, _, _⟩ := Grid.ok_b hg
    have ha := canon_of_right (hall a (by simp))
    have hb := canon_of_right (hall b (by simp))
    refine regRes_runs (by omega) (by omega) (bothT_good g a (othersR g b)) (bothN_low _ _ _ _ (tab0_low _)) _ fun c => ?_
    rw [without_has hg ha hb]
    have : twoB 2 (hasB a c) (hasB b c) = true ↔ hasB a c = true ∧ ¬ hasB b c = true := by unfold twoB; simp
    rw [this]
    exact ⟨fun h => ⟨canon_inG ha h.1, h⟩, fun h => h.2⟩
end Go.J

namespace Go.J
open Go.RowKit Go.Proofs
set_option maxRecDepth 8000
set_option linter.unusedSimpArgs false
set_option linter.unusedVariables false
theorem eitherRef_c (g : Grid) (lv av bv : Value) (a b : List Run) (w : World) (hl : SlR w lv g.land) (ha : SlR w av a) (hb : SlR w bv b) :
    Calls Try.prog 55 #[g.ev lv, av, bv] w (fun e w' => ResR w w' [] (twoR 0 g a b) e) := by
  obtain ⟨la, lc, rfl⟩ := hl.len
  obtain ⟨aa, ac, rfl⟩ := ha.len
  obtain ⟨ba, bc, rfl⟩ := hb.len
  refine calls_J (args := [g.ev (.slice la g.land.length lc), .slice aa a.length ac, .slice ba b.length bc]) Try.func55 rfl Try.ntmps55 rfl ?_
  have H := Own.start w
  ((repeat refine JC.seq ?_); refine JC.region ?_)
  refine JL.box H rfl rfl rfl ?_
  intro b3 w1 H
  refine JL.pure rfl rfl ?_
  refine JL.pure rfl rfl ?_
  refine JL.nil ?_
  ((repeat refine Ex.normal_block ?_); refine Ex.next ?_)
  ((repeat refine JC.seq ?_); refine JC.region ?_)
  refine JL.loadB 0 H rfl sh52 rfl rfl rfl ?_
  refine JL.pure rfl rfl ?_
  refine JL.pure rfl rfl ?_
  refine JL.call fb146 rfl rfl (two_c 0 g _ _ _ a b _ (hl.grow H.below) (ha.grow H.below) (hb.grow H.below)) ?_
  rintro _ w2 ⟨rv, rfl, K⟩
  have H := H.join K
  refine ⟨_, rfl, ?_⟩
  refine JL.pure rfl rfl ?_
  refine JL.pure rfl rfl ?_
  refine JL.pure rfl rfl ?_
  refine JL.pure rfl rfl ?_
  refine JL.nil ?_
  ((repeat refine Ex.normal_block ?_); refine Ex.next ?_)
  ((repeat refine JC.seq ?_); refine JC.ret ?_)
  (repeat (first | refine Ex.ret_then ?_ | refine Ex.ret_block ?_))
  refine Ex.ret2 rfl (.tmp rfl) (.tmp rfl) ⟨_, rfl, H.drop 1⟩
theorem bothRef_c (g : Grid) (lv av bv : Value) (a b : List Run) (w : World) (hl : SlR w lv g.land) (ha : SlR w av a) (hb : SlR w bv b) :
    Calls Try.prog 56 #[g.ev lv, av, bv] w (fun e w' => ResR w w' [] (twoR 1 g a b) e) := by
  obtain ⟨la, lc, rfl⟩ := hl.len
  obtain ⟨aa, ac, rfl⟩ := ha.len
  obtain ⟨ba, bc, rfl⟩ := hb.len
  refine calls_J (args := [g.ev (.slice la g.land.length lc), .slice aa a.length ac, .slice ba b.length bc]) Try.func56 rfl Try.ntmps56 rfl ?_
  have H := Own.start w
  ((repeat refine JC.seq ?_); refine JC.region ?_)
  refine JL.box H rfl rfl rfl ?_
  intro b3 w1 H
  refine JL.pure rfl rfl ?_
  refine JL.pure rfl rfl ?_
  refine JL.nil ?_
  ((repeat refine Ex.normal_block ?_); refine Ex.next ?_)
  ((repeat refine JC.seq ?_); refine JC.region ?_)
  refine JL.loadB 0 H rfl sh52 rfl rfl rfl ?_
  refine JL.pure rfl rfl ?_
  refine JL.pure rfl rfl ?_
  refine JL.call fb146 rfl rfl (two_c 1 g _ _ _ a b _ (hl.grow H.below) (ha.grow H.below) (hb.grow H.below)) ?_
  rintro _ w2 ⟨rv, rfl, K⟩
  have H := H.join K
  refine ⟨_, rfl, ?_⟩
  refine JL.pure rfl rfl ?_
  refine JL.pure rfl rfl ?_
  refine JL.pure rfl rfl ?_
  refine JL.pure rfl rfl ?_
  refine JL.nil ?_
  ((repeat refine Ex.normal_block ?_); refine Ex.next ?_)
  ((repeat refine JC.seq ?_); refine JC.ret ?_)
  (repeat (first | refine Ex.ret_then ?_ | refine Ex.ret_block ?_))
  refine Ex.ret2 rfl (.tmp rfl) (.tmp rfl) ⟨_, rfl, H.drop 1⟩
theorem withoutRef_c (g : Grid) (lv av bv : Value) (a b : List Run) (w : World) (hl : SlR w lv g.land) (ha : SlR w av a) (hb : SlR w bv b) :
    Calls Try.prog 58 #[g.ev lv, av, bv] w (fun e w' => ResR w w' [] (twoR 2 g a b) e) := by
  obtain ⟨la, lc, rfl⟩ := hl.len
  obtain ⟨aa, ac, rfl⟩ := ha.len
  obtain ⟨ba, bc, rfl⟩ := hb.len
  refine calls_J (args := [g.ev (.slice la g.land.length lc), .slice aa a.length ac, .slice ba b.length bc]) Try.func58 rfl Try.ntmps58 rfl ?_
  have H := Own.start w
  ((repeat refine JC.seq ?_); refine JC.region ?_)
  refine JL.box H rfl rfl rfl ?_
  intro b3 w1 H
  refine JL.pure rfl rfl ?_
  refine JL.pure rfl rfl ?_
  refine JL.nil ?_
  ((repeat refine Ex.normal_block ?_); refine Ex.next ?_)
  ((repeat refine JC.seq ?_); refine JC.region ?_)
  refine JL.loadB 0 H rfl sh52 rfl rfl rfl ?_
  refine JL.pure rfl rfl ?_
  refine JL.pure rfl rfl ?_
  refine JL.call fb146 rfl rfl (two_c 2 g _ _ _ a b _ (hl.grow H.below) (ha.grow H.below) (hb.grow H.below)) ?_
  rintro _ w2 ⟨rv, rfl, K⟩
  have H := H.join K
  refine ⟨_, rfl, ?_⟩
  refine JL.pure rfl rfl ?_
  refine JL.pure rfl rfl ?_
  refine JL.pure rfl rfl ?_
  refine JL.pure rfl rfl ?_
  refine JL.nil ?_
  ((repeat refine Ex.normal_block ?_); refine Ex.next ?_)
  ((repeat refine JC.seq ?_); refine JC.ret ?_)
  (repeat (first | refine Ex.ret_then ?_ | refine Ex.ret_block ?_))
  refine Ex.ret2 rfl (.tmp rfl) (.tmp rfl) ⟨_, rfl, H.drop 1⟩
theorem comb_c (g : Grid) (lv : Value) (o : Int × Int) (w : World) (hl : SlR w lv g.land) (hW : 1 ≤ g.W ∧ g.W ≤ 256) (hH : 1 ≤ g.H ∧ g.H ≤ 256) (h1 : 0 ≤ o.1 ∧ o.1 ≤ 255) (h2 : 0 ≤ o.2 ∧ o.2 ≤ 255) :
    Calls Try.prog 53 #[g.ev lv, .agg ⟨[.int .u8 o.1, .int .u8 o.2]⟩] w (fun e w' => ∃ v rs, e = .returned v ∧ rightB g.W g.H rs = true ∧ Own w w' [runRow v rs]) := by
  obtain ⟨la, lc, rfl⟩ := hl.len
  refine calls_J (args := [g.ev (.slice la g.land.length lc), .agg ⟨[.int .u8 o.1, .int .u8 o.2]⟩]) Try.func53 rfl Try.ntmps53 rfl ?_
  have H := Own.start w
  have hst : 2 ≤ 2 + o.1 % 30 ∧ 2 + o.1 % 30 ≤ 31 := by omega
  have hx0 := emod_bd (u := o.2) (S := 2 + o.1 % 30) (by omega)
  ((repeat refine JC.seq ?_); refine JC.region ?_)
  refine JL.box H rfl rfl rfl ?_
  intro b2 w1 H
  refine JL.box H rfl rfl rfl ?_
  intro b3 w2 H
  refine JL.pure rfl rfl ?_
  refine JL.nil ?_
  ((repeat refine Ex.normal_block ?_); refine Ex.next ?_)
  ((repeat refine JC.seq ?_); refine JC.region ?_)
  refine JL.pure rfl rfl ?_
  refine JL.nil ?_
  ((repeat refine Ex.normal_block ?_); refine Ex.next ?_)
  ((repeat refine JC.seq ?_); refine JC.region ?_)
  refine JL.indexA 0 rfl rfl Try.underlying76 sh5 rfl (by decide) rfl ?_
  refine JL.loadB 0 H rfl sh5 rfl rfl rfl ?_
  refine JL.convI rfl Try.underlying5 Try.underlying3 (by unfold In64; omega) rfl ?_
  first
    | refine JL.remP rfl rfl (by omega) (by omega) rfl ?_
    | refine JL.rem rfl rfl (by omega) rfl ?_
  refine JL.arith rfl (by unfold In64; omega) rfl ?_
  refine JL.pure rfl rfl ?_
  refine JL.nil ?_
  ((repeat refine Ex.normal_block ?_); refine Ex.next ?_)
  ((repeat refine JC.seq ?_); refine JC.region ?_)
  refine JL.pure rfl rfl ?_
  refine JL.nil ?_
  ((repeat refine Ex.normal_block ?_); refine Ex.next ?_)
  ((repeat refine JC.seq ?_); refine JC.block ?_)
  ((repeat refine JC.seq ?_); refine JC.loop (ι := Nat × Value × List Run) (fun x => [(2, .pointer (some ⟨b2, 0, none⟩)), (3, .pointer (some ⟨b3, 0, none⟩)), (5, x.2.1), (6, .int .i64 (2 + o.1 % 30)), (7, .int .i64 x.1)])
    (fun x wr => x.1 ≤ g.H.toNat ∧ (Canon g.W g.H x.2.2 ∧ (∀ r ∈ x.2.2, r.Y < x.1) ∧ x.2.2.length ≤ 8192) ∧ Own w wr [runRow x.2.1 x.2.2, blk b3 (.cells ⟨[.int .u8 o.1, .int .u8 o.2]⟩ 76 (0, 0)), blk b2 (.cells ⟨[.int .i64 g.W, .int .i64 g.H, .int .i64 g.S, .slice la g.land.length lc]⟩ 52 (0, 0))]) (fun x => g.H.toNat - x.1) (0, .slice none 0 0, []) ?_ ?_ ?_)
  · exact ⟨rfl, rfl, rfl, rfl, rfl, trivial⟩
  · exact ⟨Nat.zero_le _, ⟨canon_nil, by simp, by simp⟩, H.nilRow 140 3⟩
  · rintro ⟨y, v, rs⟩ wr ⟨hy, ⟨hc, hlt, hlen⟩, H⟩
    simp only at hy hc hlt hlen H
    show JC _ _ _ _ [(2, .pointer (some ⟨b2, 0, none⟩)), (3, .pointer (some ⟨b3, 0, none⟩)), (5, v), (6, .int .i64 (2 + o.1 % 30)), (7, .int .i64 y)] _
    ((repeat refine JC.seq ?_); refine JC.region ?_)
    refine JL.pure rfl rfl ?_
    refine JL.fieldAddr rfl Try.underlying52 rfl sh3 rfl ?_
    refine JL.loadB 2 H rfl sh3 rfl rfl rfl ?_
    refine JL.pure rfl rfl ?_
    refine JL.nil ?_
    ((repeat refine Ex.normal_block ?_); refine Ex.next ?_)
    ((repeat refine JC.seq ?_); refine JC.cond rfl ?_ ?_)
    · intro h17
      (try simp only [Bool.not_eq_true', Bool.not_eq_false', decide_eq_true_eq, decide_eq_false_iff_not] at h17)
      
      ((repeat refine JC.seq ?_); refine JC.skip ?_)
      ((repeat refine Ex.normal_block ?_); refine Ex.next ?_)
      ((repeat refine JC.seq ?_); refine JC.block ?_)
      ((repeat refine JC.seq ?_); refine JC.region ?_)
      refine JL.indexA 1 rfl rfl Try.underlying76 sh5 rfl (by decide) rfl ?_
      refine JL.loadB 1 H rfl sh5 rfl rfl rfl ?_
      refine JL.convI rfl Try.underlying5 Try.underlying3 (by unfold In64; omega) rfl ?_
      refine JL.pure rfl rfl ?_
      first
        | refine JL.remP rfl rfl (by omega) (by omega) rfl ?_
        | refine JL.rem rfl rfl (by omega) rfl ?_
      refine JL.pure rfl rfl ?_
      refine JL.nil ?_
      ((repeat refine Ex.normal_block ?_); refine Ex.next ?_)
      ((repeat refine JC.seq ?_); refine JC.block ?_)
      ((repeat refine JC.seq ?_); refine JC.loop (ι := Int × Value × List Run) (fun x => [(2, .pointer (some ⟨b2, 0, none⟩)), (3, .pointer (some ⟨b3, 0, none⟩)), (5, x.2.1), (6, .int .i64 (2 + o.1 % 30)), (7, .int .i64 y), (8, .int .i64 x.1)])
        (fun x wr => (0 ≤ x.1 ∧ x.1 ≤ 1000) ∧ (Canon g.W g.H x.2.2 ∧ (∀ r ∈ x.2.2, r.Y < y ∨ r.Y = y ∧ r.To < x.1) ∧ x.2.2.length ≤ 8192) ∧ Own w wr [runRow x.2.1 x.2.2, blk b3 (.cells ⟨[.int .u8 o.1, .int .u8 o.2]⟩ 76 (0, 0)), blk b2 (.cells ⟨[.int .i64 g.W, .int .i64 g.H, .int .i64 g.S, .slice la g.land.length lc]⟩ 52 (0, 0))]) (fun x => (1000 - x.1).toNat) (o.2 % (2 + o.1 % 30), v, rs) ?_ ?_ ?_)
      · exact ⟨rfl, rfl, rfl, rfl, rfl, rfl, trivial⟩
      · exact ⟨by simp only; omega, ⟨hc, fun r hr => .inl (hlt r hr), hlen⟩, H⟩
      · rintro ⟨x, v, rs⟩ wr ⟨hx, ⟨hc, hlt, hlen⟩, H⟩
        simp only at hx hc hlt hlen H
        obtain ⟨ra, rc, rfl⟩ := H.row_slice (j := 0) rfl
        show JC _ _ _ _ [(2, .pointer (some ⟨b2, 0, none⟩)), (3, .pointer (some ⟨b3, 0, none⟩)), (5, .slice ra rs.length rc), (6, .int .i64 (2 + o.1 % 30)), (7, .int .i64 y), (8, .int .i64 x)] _
        ((repeat refine JC.seq ?_); refine JC.region ?_)
        refine JL.pure rfl rfl ?_
        refine JL.fieldAddr rfl Try.underlying52 rfl sh3 rfl ?_
        refine JL.loadB 2 H rfl sh3 rfl rfl rfl ?_
        refine JL.pure rfl rfl ?_
        refine JL.pure rfl rfl ?_
        refine JL.cases 29 rfl ?_ ?_
        · intro h29
          (try simp only [Bool.not_eq_true', Bool.not_eq_false', decide_eq_true_eq, decide_eq_false_iff_not] at h29)
          refine JL.want rfl rfl ?_
          refine JL.pure rfl rfl ?_
          refine JL.want rfl rfl ?_
          refine JL.len rfl Try.underlying50 rfl ?_
          refine JL.want rfl rfl ?_
          refine JL.pure rfl rfl ?_
          refine JL.pure rfl rfl ?_
          refine JL.nil ?_
          ((repeat refine Ex.normal_block ?_); refine Ex.next ?_)
          ((repeat refine JC.seq ?_); refine JC.cond rfl ?_ ?_)
          · intro h33
            (try simp only [Bool.not_eq_true', Bool.not_eq_false', decide_eq_true_eq, decide_eq_false_iff_not] at h33)
            ((repeat refine JC.seq ?_); refine JC.skip ?_)
            ((repeat refine Ex.normal_block ?_); refine Ex.next ?_)
            ((repeat refine JC.seq ?_); refine JC.block ?_)
            ((repeat refine JC.seq ?_); refine JC.region ?_)
            refine JL.pure rfl rfl ?_
            refine JL.pure rfl rfl ?_
            refine JL.pure rfl rfl ?_
            refine JL.pure rfl rfl ?_
            refine JL.arith rfl (by unfold In64; omega) rfl ?_
            refine JL.build s140 rfl rfl ?_
            refine JL.buildSlice H Try.underlying50 sh140 z140 rfl rfl rfl rfl rfl ?_
            intro b43 w3 H
            refine JL.append1 (news := Run.cs ⟨y, x, x + 1⟩) 1 0 H Try.underlying50 ap140 rfl rfl rfl rfl rfl rfl (by omega) (by omega) rfl ?_
            intro v2 w4 H
            replace H := H.cast (L := _ :: runRow v2 (rs ++ [⟨y, x, x + 1⟩]) :: _) (by unfold runRow; rw [← trow_snoc]; rfl)
            refine JL.pure rfl rfl ?_
            refine JL.nil ?_
            ((repeat refine Ex.normal_block ?_); refine Ex.next ?_)
            ((repeat refine JC.seq ?_); refine JC.region ?_)
            refine JL.pure rfl rfl ?_
            refine JL.pure rfl rfl ?_
            refine JL.arith rfl (by unfold In64; omega) rfl ?_
            refine JL.pure rfl rfl ?_
            refine JL.nil ?_
            (repeat refine Ex.normal_block ?_)
            refine Ex.again (x + (2 + o.1 % 30), v2, rs ++ [(⟨(y : Int), x, x + 1⟩ : Run)]) ⟨rfl, rfl, rfl, rfl, rfl, rfl, trivial⟩ ⟨by simp only; omega, ⟨?_, ?_, by simp; omega⟩, H.drop 0⟩ (by simp only; omega)
            · refine canon_snoc hc (by unfold rowIn; simp only; omega) fun s hs => ?_
              have := hlt s hs
              simp only
              omega
            · intro r hr
              rcases List.mem_append.1 hr with hr | hr
              · have := hlt r hr
                simp only
                omega
              · simp only [List.mem_singleton] at hr
                subst hr
                exact .inr ⟨rfl, by simp only; omega⟩
          · intro h33
            (try simp only [Bool.not_eq_true', Bool.not_eq_false', decide_eq_true_eq, decide_eq_false_iff_not] at h33)
            ((repeat refine JC.seq ?_); refine JC.exit ?_)
            (repeat (first | refine Ex.exit_then ?_ | refine Ex.exit_miss (by decide) ?_))
            refine Ex.exit_hit ?_
            ((repeat refine Ex.normal_block ?_); refine Ex.next ?_)
            ((repeat refine JC.seq ?_); refine JC.region ?_)
            refine JL.pure rfl rfl ?_
            refine JL.arith rfl (by unfold In64; omega) rfl ?_
            refine JL.pure rfl rfl ?_
            refine JL.nil ?_
            (repeat refine Ex.normal_block ?_)
            refine Ex.again (y + 1, _, rs) ⟨rfl, rfl, rfl, rfl, rfl, trivial⟩ ⟨by simp only; omega, ⟨hc, fun r hr => ?_, hlen⟩, H⟩ (by simp only; omega)
            have := hlt r hr
            simp only
            omega
        · intro h29
          (try simp only [Bool.not_eq_true', Bool.not_eq_false', decide_eq_true_eq, decide_eq_false_iff_not] at h29)
          refine JL.pass rfl rfl rfl rfl ?_
          refine JL.pass rfl rfl rfl rfl ?_
          refine JL.pass rfl rfl rfl rfl ?_
          refine JL.pure rfl rfl ?_
          refine JL.nil ?_
          ((repeat refine Ex.normal_block ?_); refine Ex.next ?_)
          ((repeat refine JC.seq ?_); refine JC.cond rfl (fun h => by cases h) (fun _ => ?_))
          ((repeat refine JC.seq ?_); refine JC.exit ?_)
          (repeat (first | refine Ex.exit_then ?_ | refine Ex.exit_miss (by decide) ?_))
          refine Ex.exit_hit ?_
          ((repeat refine Ex.normal_block ?_); refine Ex.next ?_)
          ((repeat refine JC.seq ?_); refine JC.region ?_)
          refine JL.pure rfl rfl ?_
          refine JL.arith rfl (by unfold In64; omega) rfl ?_
          refine JL.pure rfl rfl ?_
          refine JL.nil ?_
          (repeat refine Ex.normal_block ?_)
          refine Ex.again (y + 1, _, rs) ⟨rfl, rfl, rfl, rfl, rfl, trivial⟩ ⟨by simp only; omega, ⟨hc, fun r hr => ?_, hlen⟩, H⟩ (by simp only; omega)
          have := hlt r hr
          simp only
          omega
    · intro h17
      (try simp only [Bool.not_eq_true', Bool.not_eq_false', decide_eq_true_eq, decide_eq_false_iff_not] at h17)
      
      ((repeat refine JC.seq ?_); refine JC.exit ?_)
      (repeat (first | refine Ex.exit_then ?_ | refine Ex.exit_miss (by decide) ?_))
      refine Ex.exit_hit ?_
      ((repeat refine Ex.normal_block ?_); refine Ex.next ?_)
      ((repeat refine JC.seq ?_); refine JC.region ?_)
      refine JL.pure rfl rfl ?_
      refine JL.pure rfl rfl ?_
      refine JL.nil ?_
      ((repeat refine Ex.normal_block ?_); refine Ex.next ?_)
      ((repeat refine JC.seq ?_); refine JC.ret ?_)
      (repeat (first | refine Ex.ret_then ?_ | refine Ex.ret_block ?_))
      refine Ex.ret1 rfl (.tmp rfl) ⟨_, rs, rfl, right_iff.2 ⟨hc, hlen⟩, (H.drop 1).drop 1⟩
/-- a row of runs that stand right -/
def rightRow (g : Grid) (v : Value) : HP := fun h => ∃ rs, rightB g.W g.H rs = true ∧ runRow v rs h
theorem comb2_c (g : Grid) (lv : Value) (o : Int × Int) (w : World) (hl : SlR w lv g.land) (hW : 1 ≤ g.W ∧ g.W ≤ 256) (hH : 1 ≤ g.H ∧ g.H ≤ 256) (h1 : 0 ≤ o.1 ∧ o.1 ≤ 255) (h2 : 0 ≤ o.2 ∧ o.2 ≤ 255) :
    Calls Try.prog 53 #[g.ev lv, .agg ⟨[.int .u8 o.1, .int .u8 o.2]⟩] w (fun e w' => ∃ v, e = .returned v ∧ Own w w' [rightRow g v]) :=
  (comb_c g lv o w hl hW hH h1 h2).mono fun e w' ⟨v, rs, he, hr, H⟩ => ⟨v, he, H.upd (j := 0) rfl fun h hh => ⟨rs, hr, hh⟩⟩
theorem twoR_len (n : Int) (g : Grid) (a b : List Run) : (twoR n g a b).1.length ≤ 8192 := by
  unfold twoR runsR
  split
  · split
    · simp
    · simp only; omega
  · simp
theorem eitherT_c (g : Grid) (lv av bv : Value) (a b : List Run) (w : World) (hl : SlR w lv g.land) (ha : SlR w av a) (hb : SlR w bv b) (hca : capOK av) (hcb : capOK bv) :
    Calls Try.prog 54 #[g.ev lv, av, bv] w (fun e w' => ResR w w' [] (twoR 0 g a b) e) := by
  rw [← eitherR_two]; exact either_c g lv av bv a b w hl ha hb hca hcb
theorem bothT_c (g : Grid) (lv av bv : Value) (a b : List Run) (w : World) (hl : SlR w lv g.land) (ha : SlR w av a) (hb : SlR w bv b) (hca : capOK av) (hcb : capOK bv) :
    Calls Try.prog 42 #[g.ev lv, av, bv] w (fun e w' => ResR w w' [] (twoR 1 g a b) e) := by
  rw [← bothR_two]; exact both2_c g lv av bv a b w hl ha hb hca hcb
theorem withoutT_c (g : Grid) (lv av bv : Value) (a b : List Run) (w : World) (hl : SlR w lv g.land) (ha : SlR w av a) (hb : SlR w bv b) (hca : capOK av) (hcb : capOK bv) :
    Calls Try.prog 57 #[g.ev lv, av, bv] w (fun e w' => ResR w w' [] (twoR 2 g a b) e) := by
  rw [← withoutR_two]; exact without_c g lv av bv a b w hl ha hb hca hcb
theorem same59_self (av bv : Value) (r : List Run × Int) (w : World) (ha : SlR w av r.1) (hb : SlR w bv r.1) : Pur Try.prog 59 #[av, .int .i64 r.2, bv, .int .i64 r.2] w (.bool true) := by
  have := same59_c av bv r.1 r.1 r.2 r.2 w ha hb
  simpa using this
theorem gridLong_w (high : Int) (a b : Int × Int) (w : World) (hh : 0 ≤ high ∧ high ≤ 255) (ha : (0 ≤ a.1 ∧ a.1 ≤ 255) ∧ 0 ≤ a.2 ∧ a.2 ≤ 255) (hb : (0 ≤ b.1 ∧ b.1 ≤ 255) ∧ 0 ≤ b.2 ∧ b.2 ≤ 255) :
    Pur Try.prog 9 #[.int .u8 high, .agg ⟨[.int .u8 a.1, .int .u8 a.2]⟩, .agg ⟨[.int .u8 b.1, .int .u8 b.2]⟩] w (.bool true) := by
  refine pur_J (args := [.int .u8 high, .agg ⟨[.int .u8 a.1, .int .u8 a.2]⟩, .agg ⟨[.int .u8 b.1, .int .u8 b.2]⟩]) Try.func9 rfl Try.ntmps9 rfl ?_
  have H := Own.start w
  obtain ⟨g, hg⟩ : ∃ g : Grid, g = ⟨256, 1 + high, 1, []⟩ := ⟨_, rfl⟩
  have hnl : ∀ w, SlR w (.slice none 0 0) g.land := fun w => by rw [hg]; exact ⟨by simp, none, 0, rfl, .inl rfl⟩
  have eW : g.W = 256 := by rw [hg]
  have eH : g.H = 1 + high := by rw [hg]
  ((repeat refine JC.seq ?_); refine JC.region ?_)
  refine JL.box H rfl rfl rfl ?_
  intro b4 w1 H
  refine JL.box H rfl rfl rfl ?_
  intro b5 w2 H
  refine JL.pure rfl rfl ?_
  refine JL.nil ?_
  ((repeat refine Ex.normal_block ?_); refine Ex.next ?_)
  ((repeat refine JC.seq ?_); refine JC.region ?_)
  refine JL.pure rfl rfl ?_
  refine JL.convI rfl Try.underlying5 Try.underlying3 (by unfold In64; omega) rfl ?_
  refine JL.arith rfl (by unfold In64; omega) rfl ?_
  refine JL.build s52 rfl rfl ?_
  refine JL.alloc H z52 rfl ?_
  intro b7 w3 H
  refine JL.storeB 0 H rfl rfl sh52 rfl rfl rfl rfl rfl ?_
  intro w9 H
  replace H : Own w w9 [blk b7 (.cells ⟨[.int .i64 g.W, .int .i64 g.H, .int .i64 g.S, .slice none 0 0]⟩ 52 (0, 0)), blk b5 (.cells ⟨[.int .u8 b.1, .int .u8 b.2]⟩ 76 (0, 0)), blk b4 (.cells ⟨[.int .u8 a.1, .int .u8 a.2]⟩ 76 (0, 0))] := by rw [hg]; exact H
  clear hg
  refine JL.nil ?_
  ((repeat refine Ex.normal_block ?_); refine Ex.next ?_)
  ((repeat refine JC.seq ?_); refine JC.drawS H mixed ?_)
  intro w4 H
  refine DR.any 0 6 H (by kernel_rfl) ?_
  refine JD.loadB 0 rfl sh52 rfl rfl rfl ?_
  refine JD.loadB 2 rfl sh76 rfl rfl rfl ?_
  refine JD.callN (fun v => rightRow g v) fb53 rfl rfl (fun w1 hw => comb2_c g _ a w1 (hnl _) (by omega) (by omega) (by omega) (by omega)) ?_
  refine JD.loadB 0 rfl sh52 rfl rfl rfl ?_
  refine JD.loadB 1 rfl sh76 rfl rfl rfl ?_
  refine JD.callN (fun v => rightRow g v) fb53 rfl rfl (fun w1 hw => comb2_c g _ b w1 (hnl _) (by omega) (by omega) (by omega) (by omega)) ?_
  refine JD.nil ?_
  intro w5 v31 v28 H
  simp only [Option.isSome_none, Option.isSome_some, cond_false, cond_true] at H
  show DR _ _ _ _ _ _ _
  refine DR.any 6 8 H (by kernel_rfl) ?_
  refine JD.pure rfl rfl ?_
  refine JD.pure rfl rfl ?_
  refine JD.nil ?_
  intro w6 H
  show DR _ _ _ _ _ _ _
  refine DR.done rfl ?_
  ((repeat refine Ex.normal_block ?_); refine Ex.next ?_)
  ((repeat refine JC.seq ?_); refine JC.region ?_)
  refine JL.loadB 2 H rfl sh52 rfl rfl rfl ?_
  refine JL.pure rfl rfl ?_
  refine JL.pure rfl rfl ?_
  obtain ⟨⟨ra, hra⟩, H⟩ := H.exi (j := 0) (B := fun x : {rs : List Run // rightB g.W g.H rs = true} => runRow v28 x.1) rfl (fun h ⟨rs, h1, h2⟩ => ⟨⟨rs, h1⟩, h2⟩)
  obtain ⟨⟨rb, hrb⟩, H⟩ := H.exi (j := 1) (B := fun x : {rs : List Run // rightB g.W g.H rs = true} => runRow v31 x.1) rfl (fun h ⟨rs, h1, h2⟩ => ⟨⟨rs, h1⟩, h2⟩)
  have hla := rightB_len hra
  have hlb := rightB_len hrb
  refine JL.call fb54 rfl rfl (eitherT_c g _ v28 v31 ra rb _ (hnl _) (runSl H (j := 0) rfl (by omega)) (runSl H (j := 1) rfl (by omega)) (H.rowCap (j := 0) rfl) (H.rowCap (j := 1) rfl)) ?_
  rintro _ w7 ⟨vx1, rfl, K⟩
  have H := H.join K
  refine ⟨_, rfl, ?_⟩
  refine JL.pure rfl rfl ?_
  refine JL.pure rfl rfl ?_
  refine JL.pure rfl rfl ?_
  refine JL.pure rfl rfl ?_
  refine JL.pure rfl rfl ?_
  refine JL.nil ?_
  ((repeat refine Ex.normal_block ?_); refine Ex.next ?_)
  ((repeat refine JC.seq ?_); refine JC.region ?_)
  refine JL.loadB 3 H rfl sh52 rfl rfl rfl ?_
  refine JL.pure rfl rfl ?_
  refine JL.pure rfl rfl ?_
  refine JL.call fb55 rfl rfl (eitherRef_c g _ v28 v31 ra rb _ (hnl _) (runSl H (j := 1) rfl (by omega)) (runSl H (j := 2) rfl (by omega))) ?_
  rintro _ w8 ⟨vx2, rfl, K⟩
  have H := H.join K
  refine ⟨_, rfl, ?_⟩
  refine JL.pure rfl rfl ?_
  refine JL.pure rfl rfl ?_
  refine JL.pure rfl rfl ?_
  refine JL.pure rfl rfl ?_
  refine JL.pure rfl rfl ?_
  refine JL.nil ?_
  ((repeat refine Ex.normal_block ?_); refine Ex.next ?_)
  ((repeat refine JC.seq ?_); refine JC.region ?_)
  refine JL.loadB 4 H rfl sh52 rfl rfl rfl ?_
  refine JL.pure rfl rfl ?_
  refine JL.pure rfl rfl ?_
  refine JL.call fb42 rfl rfl (bothT_c g _ v28 v31 ra rb _ (hnl _) (runSl H (j := 2) rfl (by omega)) (runSl H (j := 3) rfl (by omega)) (H.rowCap (j := 2) rfl) (H.rowCap (j := 3) rfl)) ?_
  rintro _ w9 ⟨vx3, rfl, K⟩
  have H := H.join K
  refine ⟨_, rfl, ?_⟩
  refine JL.pure rfl rfl ?_
  refine JL.pure rfl rfl ?_
  refine JL.pure rfl rfl ?_
  refine JL.pure rfl rfl ?_
  refine JL.pure rfl rfl ?_
  refine JL.nil ?_
  ((repeat refine Ex.normal_block ?_); refine Ex.next ?_)
  ((repeat refine JC.seq ?_); refine JC.region ?_)
  refine JL.loadB 5 H rfl sh52 rfl rfl rfl ?_
  refine JL.pure rfl rfl ?_
  refine JL.pure rfl rfl ?_
  refine JL.call fb56 rfl rfl (bothRef_c g _ v28 v31 ra rb _ (hnl _) (runSl H (j := 3) rfl (by omega)) (runSl H (j := 4) rfl (by omega))) ?_
  rintro _ w10 ⟨vx4, rfl, K⟩
  have H := H.join K
  refine ⟨_, rfl, ?_⟩
  refine JL.pure rfl rfl ?_
  refine JL.pure rfl rfl ?_
  refine JL.pure rfl rfl ?_
  refine JL.pure rfl rfl ?_
  refine JL.pure rfl rfl ?_
  refine JL.nil ?_
  ((repeat refine Ex.normal_block ?_); refine Ex.next ?_)
  ((repeat refine JC.seq ?_); refine JC.region ?_)
  refine JL.loadB 6 H rfl sh52 rfl rfl rfl ?_
  refine JL.pure rfl rfl ?_
  refine JL.pure rfl rfl ?_
  refine JL.call fb57 rfl rfl (withoutT_c g _ v28 v31 ra rb _ (hnl _) (runSl H (j := 4) rfl (by omega)) (runSl H (j := 5) rfl (by omega)) (H.rowCap (j := 4) rfl) (H.rowCap (j := 5) rfl)) ?_
  rintro _ w11 ⟨vx5, rfl, K⟩
  have H := H.join K
  refine ⟨_, rfl, ?_⟩
  refine JL.pure rfl rfl ?_
  refine JL.pure rfl rfl ?_
  refine JL.pure rfl rfl ?_
  refine JL.pure rfl rfl ?_
  refine JL.pure rfl rfl ?_
  refine JL.nil ?_
  ((repeat refine Ex.normal_block ?_); refine Ex.next ?_)
  ((repeat refine JC.seq ?_); refine JC.region ?_)
  refine JL.loadB 7 H rfl sh52 rfl rfl rfl ?_
  refine JL.pure rfl rfl ?_
  refine JL.pure rfl rfl ?_
  refine JL.call fb58 rfl rfl (withoutRef_c g _ v28 v31 ra rb _ (hnl _) (runSl H (j := 5) rfl (by omega)) (runSl H (j := 6) rfl (by omega))) ?_
  rintro _ w12 ⟨vx6, rfl, K⟩
  have H := H.join K
  refine ⟨_, rfl, ?_⟩
  refine JL.pure rfl rfl ?_
  refine JL.pure rfl rfl ?_
  refine JL.pure rfl rfl ?_
  refine JL.pure rfl rfl ?_
  refine JL.pure rfl rfl ?_
  refine JL.nil ?_
  ((repeat refine Ex.normal_block ?_); refine Ex.next ?_)
  ((repeat refine JC.seq ?_); refine JC.region ?_)
  refine JL.pure rfl rfl ?_
  refine JL.pure rfl rfl ?_
  refine JL.pure rfl rfl ?_
  refine JL.pure rfl rfl ?_
  refine JL.callP H fb59 rfl rfl (same59_self vx1 vx2 (twoR 0 g ra rb) _ (runSl H (j := 5) rfl (Nat.le_trans (twoR_len 0 g ra rb) (by decide))) (runSl H (j := 4) rfl (Nat.le_trans (twoR_len 0 g ra rb) (by decide)))) ?_
  intro w13 H _
  refine JL.pure rfl rfl ?_
  refine JL.want rfl rfl ?_
  refine JL.pure rfl rfl ?_
  refine JL.want rfl rfl ?_
  refine JL.pure rfl rfl ?_
  refine JL.want rfl rfl ?_
  refine JL.pure rfl rfl ?_
  refine JL.want rfl rfl ?_
  refine JL.pure rfl rfl ?_
  refine JL.want rfl rfl ?_
  refine JL.callP H fb59 rfl rfl (same59_self vx3 vx4 (twoR 1 g ra rb) _ (runSl H (j := 3) rfl (Nat.le_trans (twoR_len 1 g ra rb) (by decide))) (runSl H (j := 2) rfl (Nat.le_trans (twoR_len 1 g ra rb) (by decide)))) ?_
  intro w14 H _
  refine JL.pure rfl rfl ?_
  refine JL.pure rfl rfl ?_
  refine JL.want rfl rfl ?_
  refine JL.pure rfl rfl ?_
  refine JL.want rfl rfl ?_
  refine JL.pure rfl rfl ?_
  refine JL.want rfl rfl ?_
  refine JL.pure rfl rfl ?_
  refine JL.want rfl rfl ?_
  refine JL.pure rfl rfl ?_
  refine JL.want rfl rfl ?_
  refine JL.callP H fb59 rfl rfl (same59_self vx5 vx6 (twoR 2 g ra rb) _ (runSl H (j := 1) rfl (Nat.le_trans (twoR_len 2 g ra rb) (by decide))) (runSl H (j := 0) rfl (Nat.le_trans (twoR_len 2 g ra rb) (by decide)))) ?_
  intro w15 H _
  refine JL.pure rfl rfl ?_
  refine JL.pure rfl rfl ?_
  refine JL.want rfl rfl ?_
  refine JL.callP H fb40 rfl rfl (alive_c _) ?_
  intro w16 H _
  refine JL.pure rfl rfl ?_
  refine JL.pure rfl rfl ?_
  refine JL.nil ?_
  ((repeat refine Ex.normal_block ?_); refine Ex.next ?_)
  ((repeat refine JC.seq ?_); refine JC.ret ?_)
  (repeat (first | refine Ex.ret_then ?_ | refine Ex.ret_block ?_))
  refine Ex.ret1 rfl (.tmp rfl) ⟨rfl, H.below⟩
end Go.J

namespace Go.J
set_option linter.unusedSimpArgs false
set_option linter.unusedVariables false
/-! plain: how many cells there are, and what a region's cells make -/
def countR (rs : List Run) : Int := (rs.map fun r => max r.From r.To - r.From).sum
theorem countR_take {rs : List Run} {k : Nat} (hk : k < rs.length) : countR (rs.take (k + 1)) = countR (rs.take k) + (max rs[k].From rs[k].To - rs[k].From) := by
  unfold countR
  rw [List.take_succ_eq_append_getElem hk, List.map_append, List.sum_append]; simp
theorem countR_bd {rs : List Run} (h : Tame rs) : 0 ≤ countR rs ∧ countR rs ≤ rs.length * 4000000000000 := by
  induction rs with
  | nil => simp [countR]
  | cons r rs ih =>
    have h1 := h r List.mem_cons_self
    have h2 := ih fun x hx => h x (List.mem_cons_of_mem _ hx)
    have h3 : countR (r :: rs) = (max r.From r.To - r.From) + countR rs := by unfold countR; simp
    rw [h3, List.length_cons]
    omega
theorem countR_cells {W H : Int} {rs : List Run} (h : Canon W H rs) : countR rs = (cellsAll rs).length := by
  induction rs with
  | nil => rfl
  | cons r rs ih =>
    have h1 := h.rng r List.mem_cons_self
    have h2 := ih ⟨fun x hx => h.rng x (List.mem_cons_of_mem _ hx), (List.pairwise_cons.1 h.ord).2⟩
    have h3 : countR (r :: rs) = (max r.From r.To - r.From) + countR rs := by unfold countR; simp
    have h4 : cellsAll (r :: rs) = cellsRun r ++ cellsAll rs := rfl
    rw [h3, h4, List.length_append, cellsRun_len, h2]
    omega
theorem range_map_nodup {α : Type} (f : Nat → α) (h : ∀ a b, f a = f b → a = b) (n : Nat) : ((List.range n).map f).Nodup := by
  unfold List.Nodup
  rw [List.pairwise_map]
  exact List.nodup_range.imp fun {a b} hab e => hab (h a b e)
theorem cellsRun_nodup (r : Run) : (cellsRun r).Nodup := range_map_nodup _ (fun a b e => by simp only [Cell.mk.injEq] at e; omega) _
theorem cellsAll_nodup {W H : Int} {rs : List Run} (h : Canon W H rs) : (cellsAll rs).Nodup := by
  unfold cellsAll List.Nodup
  rw [List.pairwise_flatMap]
  refine ⟨fun r _ => cellsRun_nodup r, h.ord.imp fun {a b} hab x hx y hy e => ?_⟩
  subst e
  rw [mem_cellsRun] at hx hy
  omega
theorem everyR_nodup (W H : Nat) : (everyR W H).Nodup := by
  unfold everyR List.Nodup
  rw [List.pairwise_flatMap]
  refine ⟨fun y _ => range_map_nodup _ (fun a b e => by simp only [Cell.mk.injEq] at e; omega) _, List.nodup_range.imp fun {a b} hab x hx y hy e => ?_⟩
  subst e
  obtain ⟨i, _, rfl⟩ := List.mem_map.1 hx
  obtain ⟨j, _, e⟩ := List.mem_map.1 hy
  simp only [Cell.mk.injEq] at e
  omega
theorem countR_every {g : Grid} (hg : g.ok = true) {rs : List Run} (h : Canon g.W g.H rs) : countR rs = (everyR g.W.toNat g.H.toNat).countP (hasB rs) := by
  obtain ⟨hW, hH, _, _⟩ := Grid.ok_b hg
  rw [countR_cells h, List.countP_eq_length_filter]
  have : (cellsAll rs).Perm ((everyR g.W.toNat g.H.toNat).filter (hasB rs)) := (List.perm_ext_iff_of_nodup (cellsAll_nodup h) ((everyR_nodup _ _).filter _)).2 fun c => by
    rw [mem_cellsAll, List.mem_filter, every_inG (by omega) (by omega)]
    exact ⟨fun h' => ⟨canon_inG h h', h'⟩, fun h' => h'.2⟩
  rw [this.length_eq]
theorem countP_or {α : Type} (p q : α → Bool) (l : List α) : l.countP (fun c => p c || q c) + l.countP (fun c => p c && q c) = l.countP p + l.countP q := by
  induction l with
  | nil => rfl
  | cons a l ih =>
    simp only [List.countP_cons]
    cases p a <;> cases q a <;> simp <;> omega
theorem countP_diff {α : Type} (p q : α → Bool) (l : List α) : l.countP (fun c => p c && !q c) + l.countP (fun c => p c && q c) = l.countP p := by
  induction l with
  | nil => rfl
  | cons a l ih =>
    simp only [List.countP_cons]
    cases p a <;> cases q a <;> simp <;> omega
def c2r (c : Cell) : Run := ⟨c.Y, c.X, c.X + 1⟩
theorem hasB_c2r {l : List Cell} {c : Cell} : hasB (l.map c2r) c = true ↔ c ∈ l := by
  rw [hasB_iff]
  constructor
  · rintro ⟨r, hr, h1, h2, h3⟩
    obtain ⟨d, hd, rfl⟩ := List.mem_map.1 hr
    unfold c2r at h1 h2 h3
    simp only at h1 h2 h3
    have : c = d := by cases c; cases d; simp only [Cell.mk.injEq] at *; omega
    rw [this]; exact hd
  · intro h
    exact ⟨c2r c, List.mem_map.2 ⟨c, h, rfl⟩, rfl, Int.le_refl _, by unfold c2r; simp only; omega⟩
/-- the region of cells of a small grid -/
theorem region_cells {g : Grid} (hg : g.ok = true) (hs : g.W * g.H ≤ 4096) {a : List Run} (ha : Canon g.W g.H a) : regRes (addAll g tab0 ((cellsAll a).map c2r)) = (a, 0) := by
  obtain ⟨hW, hH, _, _⟩ := Grid.ok_b hg
  have hgd := addAll_good (g := g) ((cellsAll a).map c2r) (tab0_good g.W)
  have hlow := addAll_low (g := g) ((cellsAll a).map c2r) (tab0_low g.H)
  obtain ⟨h1, h2, h3⟩ := regRes_fits hgd hlow hW.1 hH.1 hs
  rw [h1]
  congr 1
  refine canon_unique (by omega) (canon_of_right h3) ha fun c => ?_
  rw [regR_has hgd, ← mem_cellsAll]
  have hr : ∀ r ∈ (cellsAll a).map c2r, (0 ≤ r.Y ∧ r.Y < g.H) ∧ 0 ≤ r.From ∧ r.To ≤ g.W := by
    intro r hr
    obtain ⟨d, hd, rfl⟩ := List.mem_map.1 hr
    have := canon_inG ha (mem_cellsAll.1 hd)
    unfold inG at this
    unfold c2r
    simp only
    omega
  constructor
  · rintro ⟨k1, k2, k3⟩
    rcases (addAll_cov hH.2 _ _ _ tab0 0 (tab0_good g.W) hr).1 k3 with h | h
    · exact absurd h (tabCov0 _ _)
    · rw [hasB_c2r] at h
      rwa [show (⟨c.X, ((c.Y.toNat : Nat) : Int)⟩ : Cell) = c by cases c; simp only [Cell.mk.injEq, true_and]; simp only at k1; omega] at h
  · intro h
    have hc := canon_inG ha (mem_cellsAll.1 h)
    unfold inG at hc
    refine ⟨by omega, by omega, (addAll_cov hH.2 _ _ _ tab0 0 (tab0_good g.W) hr).2 (.inr ?_)⟩
    rw [hasB_c2r, show (⟨c.X, ((c.Y.toNat : Nat) : Int)⟩ : Cell) = c by cases c; simp only [Cell.mk.injEq, true_and]; simp only at hc; omega]
    exact h
theorem all_has {g : Grid} (hg : g.ok = true) : (allR g).2 = 0 ∧ rightB g.W g.H (allR g).1 = true ∧ ∀ c, hasB (allR g).1 c = true ↔ inG g c := by
  obtain ⟨hW, hH, _, _⟩ := Grid.ok_b hg
  have h1 : allR g = (regR (fillT g.W g.H (fun _ => (0, g.W - 1)) g.H.toNat), 0) := by
    unfold allR
    rw [if_pos hg, fill_fits _ _ _ _ (by omega)]
  have h2 := fill_has hH (fun _ => ((0 : Int), g.W - 1))
  have hlen : (regR (fillT g.W g.H (fun _ => (0, g.W - 1)) g.H.toNat)).length ≤ 8192 := by
    have h3 : (regRes (fillT g.W g.H (fun _ => ((0 : Int), g.W - 1)) g.H.toNat)).1.length ≤ 8192 := regRes_len _
    rw [fill_fits _ _ _ _ (by omega)] at h3
    exact h3
  rw [h1]
  refine ⟨rfl, regR_right (fillT_good _ _ _ _) (fill_low _ _ _ _) hlen, fun c => ?_⟩
  rw [h2 c]
  simp only
  refine ⟨fun h => h.1, fun h => ⟨h, ?_⟩⟩
  unfold inG at h
  omega
theorem sea_has {g : Grid} (hg : g.ok = true) (hs : g.W * g.H ≤ 4096) : (seaR g).2 = 0 ∧ rightB g.W g.H (seaR g).1 = true ∧ ∀ c, hasB (seaR g).1 c = true ↔ inG g c ∧ ¬ hasB g.land c = true := by
  obtain ⟨hW, hH, _, hl⟩ := Grid.ok_b hg
  obtain ⟨h1, h2, h3⟩ := all_has hg
  have hck : checkedB g [(allR g).1, g.land] = true := by unfold checkedB; rw [hg]; simp [h2, hl]
  obtain ⟨k1, k2, k3⟩ := regRes_fits (bothT_good g (allR g).1 (othersR g g.land)) (bothN_low _ _ _ _ (tab0_low g.H)) hW.1 hH.1 hs
  unfold seaR withoutR
  rw [if_pos h1, if_pos hck, show bothT g.W g.H tab0 (allR g).1 (othersR g g.land) = bothT g.W g.H tab0 (allR g).1 (othersR g g.land) from rfl]
  have k1' : regRes (bothT g.W g.H tab0 (allR g).1 (othersR g g.land)) = (regR (bothT g.W g.H tab0 (allR g).1 (othersR g g.land)), 0) := k1
  rw [k1']
  refine ⟨rfl, k3, fun c => ?_⟩
  rw [without_has hg (canon_of_right h2) (canon_of_right hl), h3]
end Go.J

namespace Go.J
set_option linter.unusedSimpArgs false
set_option linter.unusedVariables false
instance (g : Grid) (c : Cell) : Decidable (inG g c) := by unfold inG; infer_instance
structure BoolOk (g : Grid) (a b : List Run) (E B W S : List Run × Int) : Prop where
  ok : g.ok = true
  ca : Canon g.W g.H a
  cb : Canon g.W g.H b
  e0 : E.2 = 0
  b0 : B.2 = 0
  w0 : W.2 = 0
  se0 : S.2 = 0
  c0 : cellsR g a = (cellsAll a, 0)
  reg : regRes (addAll g tab0 ((cellsAll a).map c2r)) = (a, 0)
  len : ((cellsAll a).length : Int) = countR a
  re : rightB g.W g.H E.1 = true
  rb : rightB g.W g.H B.1 = true
  rw : rightB g.W g.H W.1 = true
  eh : ∀ c, hasB E.1 c = (hasB a c || hasB b c)
  bh : ∀ c, hasB B.1 c = (hasB a c && hasB b c)
  wh : ∀ c, hasB W.1 c = (hasB a c && !hasB b c)
  sh : ∀ c, hasB S.1 c = (decide (inG g c) && !hasB g.land c)
  n1 : countR E.1 + countR B.1 = countR a + countR b
  n2 : countR W.1 = countR a - countR B.1
  cells : ∀ c ∈ cellsAll a, inG g c
  clen : (cellsAll a).length ≤ 65536
theorem bool_law {g : Grid} (hs : g.ok = true → g.W * g.H ≤ 4096) {a b : List Run} (h : (eitherR g a b).2 ≠ 2) : BoolOk g a b (eitherR g a b) (bothR g a b) (withoutR g a b) (seaR g) := by
  cases hck : checkedB g [a, b] with
  | false => exfalso; apply h; unfold eitherR; rw [hck]; rfl
  | true =>
    obtain ⟨hg, hall⟩ := checkedB_b hck
    obtain ⟨hW, hH, _, hl⟩ := Grid.ok_b hg
    have ha := canon_of_right (hall a (by simp))
    have hb := canon_of_right (hall b (by simp))
    obtain ⟨e1, e2, e3⟩ := regRes_fits (addAll_good (g := g) (a ++ b) (tab0_good g.W)) (addAll_low _ (tab0_low g.H)) hW.1 hH.1 (hs hg)
    obtain ⟨b1, b2, b3⟩ := regRes_fits (bothT_good g a b) (bothN_low _ _ _ _ (tab0_low g.H)) hW.1 hH.1 (hs hg)
    obtain ⟨w1, w2, w3⟩ := regRes_fits (bothT_good g a (othersR g b)) (bothN_low _ _ _ _ (tab0_low g.H)) hW.1 hH.1 (hs hg)
    have eE : eitherR g a b = (regR (addAll g tab0 (a ++ b)), 0) := by unfold eitherR; rw [if_pos hck, e1]
    have eB : bothR g a b = (regR (bothT g.W g.H tab0 a b), 0) := by unfold bothR; rw [if_pos hck]; exact b1
    have eW : withoutR g a b = (regR (bothT g.W g.H tab0 a (othersR g b)), 0) := by unfold withoutR; rw [if_pos hck]; exact w1
    obtain ⟨s1, s2, s3⟩ := sea_has hg (hs hg)
    have ckA : checkedB g [a] = true := by unfold checkedB; rw [hg]; simp [hall a (by simp)]
    have heh : ∀ c, hasB (regR (addAll g tab0 (a ++ b))) c = (hasB a c || hasB b c) := fun c => by rw [Bool.eq_iff_iff, either_has hg ha hb]; simp
    have hbh : ∀ c, hasB (regR (bothT g.W g.H tab0 a b)) c = (hasB a c && hasB b c) := fun c => by rw [Bool.eq_iff_iff, both_has hg ha hb]; simp
    have hwh : ∀ c, hasB (regR (bothT g.W g.H tab0 a (othersR g b))) c = (hasB a c && !hasB b c) := fun c => by rw [Bool.eq_iff_iff, without_has hg ha hb]; simp
    have cE := countR_every hg (canon_of_right e3)
    have cB := countR_every hg (canon_of_right b3)
    have cW := countR_every hg (canon_of_right w3)
    have cA := countR_every hg ha
    have cBb := countR_every hg hb
    rw [show hasB (regR (addAll g tab0 (a ++ b))) = fun c => hasB a c || hasB b c from funext heh] at cE
    rw [show hasB (regR (bothT g.W g.H tab0 a b)) = fun c => hasB a c && hasB b c from funext hbh] at cB
    rw [show hasB (regR (bothT g.W g.H tab0 a (othersR g b))) = fun c => hasB a c && !hasB b c from funext hwh] at cW
    have p1 := countP_or (hasB a) (hasB b) (everyR g.W.toNat g.H.toNat)
    have p2 := countP_diff (hasB a) (hasB b) (everyR g.W.toNat g.H.toNat)
    have hcl := cellsR_bd g a
    have hlen : (cellsAll a).length ≤ 65536 := by
      have h1 := countR_cells ha
      have h2 := List.countP_le_length (p := hasB a) (l := everyR g.W.toNat g.H.toNat)
      rw [everyR_len] at h2
      have h3 := nat_mul_bd (a := g.W.toNat) (b := g.H.toNat) (by omega) (by omega)
      omega
    refine ⟨hg, ha, hb, by rw [eE], by rw [eB], by rw [eW], s1, by unfold cellsR; rw [if_pos ckA], region_cells hg (hs hg) ha, (countR_cells ha).symm, by rw [eE]; exact e3, by rw [eB]; exact b3, by rw [eW]; exact w3,
      by rw [eE]; exact heh, by rw [eB]; exact hbh, by rw [eW]; exact hwh, fun c => by rw [Bool.eq_iff_iff, s3]; simp, ?_, ?_, fun c hc => canon_inG ha (mem_cellsAll.1 hc), hlen⟩
    · rw [eE, eB]; simp only; omega
    · rw [eB, eW]; simp only; omega
theorem bool_arg {g : Grid} (hs : g.ok = true → g.W * g.H ≤ 4096) {a b : List Run} (h : (eitherR g a b).2 = 2) : eitherR g a b = ([], 2) ∧ bothR g a b = ([], 2) ∧ withoutR g a b = ([], 2) := by
  cases hck : checkedB g [a, b] with
  | false => refine ⟨?_, ?_, ?_⟩ <;> simp [eitherR, bothR, withoutR, hck]
  | true =>
    exfalso
    obtain ⟨hg, hall⟩ := checkedB_b hck
    obtain ⟨hW, hH, _, hl⟩ := Grid.ok_b hg
    obtain ⟨e1, e2, e3⟩ := regRes_fits (addAll_good (g := g) (a ++ b) (tab0_good g.W)) (addAll_low _ (tab0_low g.H)) hW.1 hH.1 (hs hg)
    unfold eitherR at h
    rw [if_pos hck, e1] at h
    cases h
end Go.J

namespace Go.J
open Go.RowKit Go.Proofs
set_option maxRecDepth 8000
set_option linter.unusedSimpArgs false
set_option linter.unusedVariables false
theorem Tame.take {rs : List Run} (h : Tame rs) (k : Nat) : Tame (rs.take k) := fun r hr => h r (List.mem_of_mem_take hr)
theorem count_c (v : Value) (rs : List Run) (w : World) (hv : SlR w v rs) (ht : Tame rs) (hl : rs.length ≤ 1000000) : Pur Try.prog 94 #[v] w (.int .i64 (countR rs)) := by
  obtain ⟨hlen, a, cap, rfl, ha⟩ := hv
  refine pur_J (args := [.slice a rs.length cap]) Try.func94 rfl Try.ntmps94 rfl ?_
  have H := Own.start w
  ((repeat refine JC.seq ?_); refine JC.region ?_)
  refine JL.pure rfl rfl ?_
  refine JL.nil ?_
  ((repeat refine Ex.normal_block ?_); refine Ex.next ?_)
  ((repeat refine JC.seq ?_); refine JC.region ?_)
  refine JL.pure rfl rfl ?_
  refine JL.nil ?_
  ((repeat refine Ex.normal_block ?_); refine Ex.next ?_)
  ((repeat refine JC.seq ?_); refine JC.region ?_)
  refine JL.pure rfl rfl ?_
  refine JL.len rfl Try.underlying50 rfl ?_
  refine JL.pure rfl rfl ?_
  refine JL.nil ?_
  ((repeat refine Ex.normal_block ?_); refine Ex.next ?_)
  ((repeat refine JC.seq ?_); refine JC.block ?_)
  ((repeat refine JC.seq ?_); refine JC.loop (ι := Nat) (fun k => [(3, .int .i64 (countR (rs.take k))), (6, .slice a rs.length cap), (7, .int .i64 rs.length), (8, .int .i64 k)])
    (fun k wr => k ≤ rs.length ∧ Own w wr []) (fun k => rs.length - k) 0 ?_ ?_ ?_)
  · exact ⟨rfl, rfl, rfl, rfl, trivial⟩
  · exact ⟨Nat.zero_le _, H⟩
  · rintro k wr ⟨hk, H⟩
    ((repeat refine JC.seq ?_); refine JC.region ?_)
    refine JL.pure rfl rfl ?_
    refine JL.nil ?_
    ((repeat refine Ex.normal_block ?_); refine Ex.next ?_)
    ((repeat refine JC.seq ?_); refine JC.cond rfl ?_ ?_)
    · intro h9
      (try simp only [Bool.not_eq_true', Bool.not_eq_false', decide_eq_true_eq, decide_eq_false_iff_not] at h9)
      have h9 : k < rs.length := by omega
      obtain ⟨βr, off, rfl, hβ, hc⟩ := ha.resolve_left (by rintro rfl; simp at h9)
      have hx : rs[k]? = some rs[k] := by simp [h9]
      have htk := ht _ (List.getElem_mem h9)
      have hb1 := countR_bd (ht.take k)
      have hb2 : (rs.take k).length ≤ 1000000 := by rw [List.length_take]; omega
      ((repeat refine JC.seq ?_); refine JC.skip ?_)
      ((repeat refine Ex.normal_block ?_); refine Ex.next ?_)
      ((repeat refine JC.seq ?_); refine JC.block ?_)
      ((repeat refine JC.seq ?_); refine JC.region ?_)
      refine JL.indexS k rfl rfl Try.underlying50 sh140 rfl h9 rfl ?_
      refine JL.load rfl sh140 ((hc k _ hx).grow hβ H.below) rfl ?_
      refine JL.alloc H z140 rfl ?_
      intro b5 w1 H
      refine JL.storeB 0 H rfl rfl sh140 rfl rfl rfl rfl rfl ?_
      intro w2 H
      refine JL.nil ?_
      ((repeat refine Ex.normal_block ?_); refine Ex.next ?_)
      ((repeat refine JC.seq ?_); refine JC.region ?_)
      refine JL.pure rfl rfl ?_
      refine JL.fieldAddr rfl Try.underlying140 rfl sh3 rfl ?_
      refine JL.loadB 0 H rfl sh3 rfl rfl rfl ?_
      refine JL.fieldAddr rfl Try.underlying140 rfl sh3 rfl ?_
      refine JL.loadB 0 H rfl sh3 rfl rfl rfl ?_
      refine JL.pure rfl rfl ?_
      refine JL.fieldAddr rfl Try.underlying140 rfl sh3 rfl ?_
      refine JL.loadB 0 H rfl sh3 rfl rfl rfl ?_
      refine JL.arith rfl (by unfold In64; omega) rfl ?_
      refine JL.arith rfl (by unfold In64; omega) rfl ?_
      refine JL.pure rfl rfl ?_
      refine JL.nil ?_
      ((repeat refine Ex.normal_block ?_); refine Ex.next ?_)
      ((repeat refine JC.seq ?_); refine JC.region ?_)
      refine JL.arith rfl (by unfold In64; omega) rfl ?_
      refine JL.pure rfl rfl ?_
      refine JL.nil ?_
      (repeat refine Ex.normal_block ?_)
      rw [← countR_take h9]
      exact Ex.again (k + 1) ⟨rfl, rfl, rfl, rfl, trivial⟩ ⟨h9, H.drop 0⟩ (by omega)
    · intro h9
      (try simp only [Bool.not_eq_true', Bool.not_eq_false', decide_eq_true_eq, decide_eq_false_iff_not] at h9)
      have hkk : k = rs.length := by omega
      subst hkk
      ((repeat refine JC.seq ?_); refine JC.exit ?_)
      (repeat (first | refine Ex.exit_then ?_ | refine Ex.exit_miss (by decide) ?_))
      refine Ex.exit_hit ?_
      ((repeat refine Ex.normal_block ?_); refine Ex.next ?_)
      ((repeat refine JC.seq ?_); refine JC.region ?_)
      refine JL.pure rfl rfl ?_
      refine JL.pure rfl rfl ?_
      refine JL.nil ?_
      ((repeat refine Ex.normal_block ?_); refine Ex.next ?_)
      ((repeat refine JC.seq ?_); refine JC.ret ?_)
      (repeat (first | refine Ex.ret_then ?_ | refine Ex.ret_block ?_))
      refine Ex.ret1 rfl (.tmp rfl) ⟨?_, H.below⟩
      rw [List.take_length]
theorem checkRegion_c (g : Grid) (lv rv : Value) (r : List Run) (w : World) (hl : SlR w lv g.land) (hr : SlR w rv r) : Pur Try.prog 100 #[g.ev lv, rv] w (.int .i64 (if checkedB g [r] then 0 else 2)) := by
  obtain ⟨ra, rc, rfl⟩ := hr.len
  refine pur_J (args := [g.ev lv, .slice ra r.length rc]) Try.func100 rfl Try.ntmps100 rfl ?_
  have H := Own.start w
  ((repeat refine JC.seq ?_); refine JC.region ?_)
  refine JL.box H rfl rfl rfl ?_
  intro b2 w1 H
  refine JL.pure rfl rfl ?_
  refine JL.nil ?_
  ((repeat refine Ex.normal_block ?_); refine Ex.next ?_)
  ((repeat refine JC.seq ?_); refine JC.region ?_)
  refine JL.loadB 0 H rfl sh52 rfl rfl rfl ?_
  refine JL.pure rfl rfl ?_
  refine JL.buildSlice H Try.underlying134 sh50 z50 rfl rfl rfl rfl rfl ?_
  intro b7 w2 H
  refine JL.callP H fb129 rfl rfl (checked_c g lv _ [(.slice ra r.length rc, r)] _ (hl.grow H.below) (H.blkSl1 (j := 0) (ev := Prod.fst) rfl [(.slice ra r.length rc, r)] rfl (by simp)) (by
    have hB := H.below
    intro p hp
    simp only [List.mem_cons, List.not_mem_nil, or_false] at hp
    subst hp
    exact hr.grow hB)) ?_
  intro w3 H _
  refine JL.pure rfl rfl ?_
  refine JL.nil ?_
  ((repeat refine Ex.normal_block ?_); refine Ex.next ?_)
  ((repeat refine JC.seq ?_); refine JC.ret ?_)
  (repeat (first | refine Ex.ret_then ?_ | refine Ex.ret_block ?_))
  refine Ex.ret1 rfl (.tmp rfl) ⟨rfl, H.below⟩
theorem region99_c (g : Grid) (lv cv : Value) (l : List Cell) (w : World) (hl : SlR w lv g.land) (hcl : Sl Cell.ev (true, 2) w cv l) (hg : g.ok = true) (hin : ∀ c ∈ l, inG g c) (hlen : l.length ≤ 65536) :
    Calls Try.prog 99 #[g.ev lv, cv] w (fun e w' => ResR w w' [] (regRes (addAll g tab0 (l.map c2r))) e) := by
  obtain ⟨hgW, hgH, hgS, _⟩ := Grid.ok_b hg
  obtain ⟨ca, cc, rfl⟩ := hcl.len
  refine calls_J (args := [g.ev lv, .slice ca l.length cc]) Try.func99 rfl Try.ntmps99 rfl ?_
  have H := Own.start w
  ((repeat refine JC.seq ?_); refine JC.region ?_)
  refine JL.box H rfl rfl rfl ?_
  intro b2 w1 H
  refine JL.pure rfl rfl ?_
  refine JL.pure rfl rfl ?_
  refine JL.nil ?_
  ((repeat refine Ex.normal_block ?_); refine Ex.next ?_)
  ((repeat refine JC.seq ?_); refine JC.region ?_)
  refine JL.pure rfl rfl ?_
  refine JL.len rfl Try.underlying68 rfl ?_
  refine JL.pure rfl rfl ?_
  refine JL.re 12 rfl (v' := .bool false) (congrArg Value.bool (decide_eq_false (by omega))) ?_
  refine JL.nil ?_
  ((repeat refine Ex.normal_block ?_); refine Ex.next ?_)
  ((repeat refine JC.seq ?_); refine JC.cond rfl (fun h => by cases h) (fun _ => ?_))
  ((repeat refine JC.seq ?_); refine JC.skip ?_)
  ((repeat refine Ex.normal_block ?_); refine Ex.next ?_)
  ((repeat refine JC.seq ?_); refine JC.region ?_)
  refine JL.loadB 0 H rfl sh52 rfl rfl rfl ?_
  refine JL.callP H fb141 rfl rfl (v := .int .i64 0) (by have := checkGrid_c g lv _ (hl.grow H.below); rw [hg] at this; exact this) ?_
  intro w2 H _
  refine JL.pure rfl rfl ?_
  refine JL.nil ?_
  ((repeat refine Ex.normal_block ?_); refine Ex.next ?_)
  ((repeat refine JC.seq ?_); refine JC.region ?_)
  refine JL.pure rfl rfl ?_
  refine JL.pure rfl rfl ?_
  refine JL.re 16 rfl (v' := .bool false) rfl ?_
  refine JL.nil ?_
  ((repeat refine Ex.normal_block ?_); refine Ex.next ?_)
  ((repeat refine JC.seq ?_); refine JC.cond rfl (fun h => by cases h) (fun _ => ?_))
  ((repeat refine JC.seq ?_); refine JC.skip ?_)
  ((repeat refine Ex.normal_block ?_); refine Ex.next ?_)
  ((repeat refine JC.seq ?_); refine JC.region ?_)
  refine JL.buildA Try.underlying195 sh193 za195 rfl rfl ?_
  refine JL.box H rfl rfl rfl ?_
  intro b19 w3 H
  have H := H.newT
  refine JL.pure rfl rfl ?_
  refine JL.nil ?_
  ((repeat refine Ex.normal_block ?_); refine Ex.next ?_)
  ((repeat refine JC.seq ?_); refine JC.region ?_)
  refine JL.pure rfl rfl ?_
  refine JL.len rfl Try.underlying68 rfl ?_
  refine JL.pure rfl rfl ?_
  refine JL.nil ?_
  ((repeat refine Ex.normal_block ?_); refine Ex.next ?_)
  ((repeat refine JC.seq ?_); refine JC.block ?_)
  ((repeat refine JC.seq ?_); refine JC.loop (ι := Nat) (fun k => [(2, .pointer (some ⟨b2, 0, none⟩)), (7, .pointer (some ⟨b19, 0, none⟩)), (20, .slice ca l.length cc), (21, .int .i64 l.length), (22, .int .i64 k)])
    (fun k wr => k ≤ l.length ∧ Own w wr [tbl b19 (addAll g tab0 ((l.map c2r).take k)), blk b2 (.cells ⟨[.int .i64 g.W, .int .i64 g.H, .int .i64 g.S, lv]⟩ 52 (0, 0))]) (fun k => l.length - k) 0 ?_ ?_ ?_)
  · exact ⟨rfl, rfl, rfl, rfl, rfl, trivial⟩
  · exact ⟨Nat.zero_le _, H⟩
  · rintro k wr ⟨hk, H⟩
    have hgd := addAll_good (g := g) ((l.map c2r).take k) (tab0_good g.W)
    have hkl : ((l.map c2r).take k).length ≤ 65536 := by rw [List.length_take, List.length_map]; omega
    ((repeat refine JC.seq ?_); refine JC.region ?_)
    refine JL.pure rfl rfl ?_
    refine JL.nil ?_
    ((repeat refine Ex.normal_block ?_); refine Ex.next ?_)
    ((repeat refine JC.seq ?_); refine JC.cond rfl ?_ ?_)
    · intro h23
      (try simp only [Bool.not_eq_true', Bool.not_eq_false', decide_eq_true_eq, decide_eq_false_iff_not] at h23)
      have h23 : k < l.length := by omega
      obtain ⟨_, _, _, he1, ha⟩ := id hcl
      cases he1
      obtain ⟨βr, off, hca, hβ, hc⟩ := ha.resolve_left (by rintro rfl; simp at h23)
      have hx : l[k]? = some l[k] := by simp [h23]
      have hi := hin _ (List.getElem_mem h23)
      unfold inG at hi
      ((repeat refine JC.seq ?_); refine JC.skip ?_)
      ((repeat refine Ex.normal_block ?_); refine Ex.next ?_)
      ((repeat refine JC.seq ?_); refine JC.block ?_)
      ((repeat refine JC.seq ?_); refine JC.region ?_)
      refine JL.indexS k (congrArg (fun z => some (Value.slice z l.length cc)) hca) rfl Try.underlying68 sh62 rfl h23 rfl ?_
      refine JL.load rfl sh62 ((hc k _ hx).grow hβ H.below) rfl ?_
      refine JL.alloc H z62 rfl ?_
      intro b9 w4 H
      refine JL.storeB 0 H rfl rfl sh62 rfl rfl rfl rfl rfl ?_
      intro w5 H
      refine JL.nil ?_
      ((repeat refine Ex.normal_block ?_); refine Ex.next ?_)
      ((repeat refine JC.seq ?_); refine JC.region ?_)
      refine JL.fieldAddr rfl Try.underlying62 rfl sh3 rfl ?_
      refine JL.loadB 0 H rfl sh3 rfl rfl rfl ?_
      refine JL.fieldAddr rfl Try.underlying52 rfl sh3 rfl ?_
      refine JL.loadB 2 H rfl sh3 rfl rfl rfl ?_
      refine JL.arith rfl (by unfold In64; omega) rfl ?_
      refine JL.callP H fb144 rfl rfl (within_c _ _ _ _) ?_
      intro w6 H _
      refine JL.re 31 rfl (v' := .bool true) (by simp; omega) ?_
      refine JL.pure rfl rfl ?_
      refine JL.pure rfl rfl ?_
      refine JL.want rfl rfl ?_
      refine JL.fieldAddr rfl Try.underlying62 rfl sh3 rfl ?_
      refine JL.want rfl rfl ?_
      refine JL.loadB 0 H rfl sh3 rfl rfl rfl ?_
      refine JL.want rfl rfl ?_
      refine JL.fieldAddr rfl Try.underlying52 rfl sh3 rfl ?_
      refine JL.want rfl rfl ?_
      refine JL.loadB 2 H rfl sh3 rfl rfl rfl ?_
      refine JL.want rfl rfl ?_
      refine JL.arith rfl (by unfold In64; omega) rfl ?_
      refine JL.want rfl rfl ?_
      refine JL.callP H fb144 rfl rfl (within_c _ _ _ _) ?_
      intro w7 H _
      refine JL.re 39 rfl (v' := .bool true) (by simp; omega) ?_
      refine JL.want rfl rfl ?_
      refine JL.pure rfl rfl ?_
      refine JL.pure rfl rfl ?_
      refine JL.nil ?_
      ((repeat refine Ex.normal_block ?_); refine Ex.next ?_)
      ((repeat refine JC.seq ?_); refine JC.cond rfl (fun h => by cases h) (fun _ => ?_))
      ((repeat refine JC.seq ?_); refine JC.skip ?_)
      ((repeat refine Ex.normal_block ?_); refine Ex.next ?_)
      ((repeat refine JC.seq ?_); refine JC.region ?_)
      refine JL.pure rfl rfl ?_
      refine JL.loadB 2 H rfl sh52 rfl rfl rfl ?_
      refine JL.fieldAddr rfl Try.underlying62 rfl sh3 rfl ?_
      refine JL.loadB 0 H rfl sh3 rfl rfl rfl ?_
      refine JL.fieldAddr rfl Try.underlying62 rfl sh3 rfl ?_
      refine JL.loadB 0 H rfl sh3 rfl rfl rfl ?_
      refine JL.fieldAddr rfl Try.underlying62 rfl sh3 rfl ?_
      refine JL.loadB 0 H rfl sh3 rfl rfl rfl ?_
      refine JL.arith rfl (by unfold In64; omega) rfl ?_
      refine JL.call fb134 rfl rfl (add_c (H.perm (List.Perm.swap _ _ _)) _ _ _ _ _ _ _ hgH hgW.2 (fun l hl => by have := hgd.le l hl; omega)) ?_
      rintro _ w8 ⟨rfl, H⟩
      refine ⟨_, rfl, ?_⟩
      refine JL.nil ?_
      ((repeat refine Ex.normal_block ?_); refine Ex.next ?_)
      ((repeat refine JC.seq ?_); refine JC.region ?_)
      refine JL.arith rfl (by unfold In64; omega) rfl ?_
      refine JL.pure rfl rfl ?_
      refine JL.nil ?_
      (repeat refine Ex.normal_block ?_)
      have hmk : k < (l.map c2r).length := by rw [List.length_map]; exact h23
      have e := addAll_take (g := g) (T := tab0) hmk
      rw [List.getElem_map] at e
      refine Ex.again (k + 1) ⟨rfl, rfl, rfl, rfl, rfl, trivial⟩ ⟨h23, ?_⟩ (by omega)
      rw [e]
      exact H.drop 1
    · intro h23
      (try simp only [Bool.not_eq_true', Bool.not_eq_false', decide_eq_true_eq, decide_eq_false_iff_not] at h23)
      have hkk : k = (l.map c2r).length := by rw [List.length_map]; omega
      subst hkk
      rw [List.take_length] at H hgd hkl
      ((repeat refine JC.seq ?_); refine JC.exit ?_)
      (repeat (first | refine Ex.exit_then ?_ | refine Ex.exit_miss (by decide) ?_))
      refine Ex.exit_hit ?_
      ((repeat refine Ex.normal_block ?_); refine Ex.next ?_)
      ((repeat refine JC.seq ?_); refine JC.region ?_)
      refine JL.pure rfl rfl ?_
      refine JL.call fb131 rfl rfl (region_c2 H hgd (by omega) hgW.2) ?_
      rintro _ w9 ⟨rv, rfl, H⟩
      refine ⟨_, rfl, ?_⟩
      refine JL.pure rfl rfl ?_
      refine JL.pure rfl rfl ?_
      refine JL.pure rfl rfl ?_
      refine JL.pure rfl rfl ?_
      refine JL.nil ?_
      ((repeat refine Ex.normal_block ?_); refine Ex.next ?_)
      ((repeat refine JC.seq ?_); refine JC.ret ?_)
      (repeat (first | refine Ex.ret_then ?_ | refine Ex.ret_block ?_))
      refine Ex.ret2 rfl (.tmp rfl) (.tmp rfl) ⟨_, rfl, H.drop 1⟩
end Go.J

namespace Go.J
open Go.RowKit Go.Proofs
set_option maxRecDepth 8000
set_option linter.unusedSimpArgs false
set_option linter.unusedVariables false
theorem eitherR_len (g : Grid) (a b : List Run) : (eitherR g a b).1.length ≤ 8192 := by
  unfold eitherR; split
  · exact regRes_len _
  · simp
theorem withoutR_len (g : Grid) (a b : List Run) : (withoutR g a b).1.length ≤ 8192 := by
  unfold withoutR; split
  · exact regRes_len _
  · simp
theorem seaR_len (g : Grid) : (seaR g).1.length ≤ 8192 := by
  unfold seaR; split
  · exact withoutR_len _ _ _
  · simp
theorem checked_one {g : Grid} (hg : g.ok = true) {r : List Run} (hr : rightB g.W g.H r = true) : checkedB g [r] = true := by
  unfold checkedB; rw [hg]; simp [hr]
theorem gridBoolean_w (g : Grid) (lv av bv : Value) (a b : List Run) (c : Cell) (w : World) (hl : SlR w lv g.land) (ha : SlR w av a) (hb : SlR w bv b) (hcl : capOK lv) (hca : capOK av) (hcb : capOK bv) :
    Pur Try.prog 21 #[g.ev lv, av, bv, c.ev] w (.bool true) := by
  obtain ⟨la, lc, rfl⟩ := hl.len
  obtain ⟨aa, ac, rfl⟩ := ha.len
  obtain ⟨ba, bc, rfl⟩ := hb.len
  refine pur_J (args := [g.ev (.slice la g.land.length lc), .slice aa a.length ac, .slice ba b.length bc, c.ev]) Try.func21 rfl Try.ntmps21 rfl ?_
  have H := Own.start w
  ((repeat refine JC.seq ?_); refine JC.region ?_)
  refine JL.box H rfl rfl rfl ?_
  intro b4 w1 H
  refine JL.box H rfl rfl rfl ?_
  intro b7 w2 H
  refine JL.pure rfl rfl ?_
  refine JL.nil ?_
  ((repeat refine Ex.normal_block ?_); refine Ex.next ?_)
  ((repeat refine JC.seq ?_); refine JC.region ?_)
  refine JL.callP H fb40 rfl rfl (alive_c _) ?_
  intro w3 H _
  refine JL.pure rfl rfl ?_
  refine JL.nil ?_
  ((repeat refine Ex.normal_block ?_); refine Ex.next ?_)
  ((repeat refine JC.seq ?_); refine JC.region ?_)
  refine JL.loadB 1 H rfl sh52 rfl rfl rfl ?_
  refine JL.pure rfl rfl ?_
  refine JL.pure rfl rfl ?_
  refine JL.buildSlice H Try.underlying134 sh50 z50 rfl rfl rfl rfl rfl ?_
  intro b32 w4 H
  refine JL.callP H fb41 rfl rfl (great_c g _ _ 4096 [(.slice aa a.length ac, a), (.slice ba b.length bc, b)] _ (hl.grow H.below) (H.blkSl1 (j := 0) (ev := Prod.fst) rfl [(.slice aa a.length ac, a), (.slice ba b.length bc, b)] rfl (by simp)) (by
    have hB := H.below
    intro p hp
    simp only [List.mem_cons, List.not_mem_nil, or_false] at hp
    rcases hp with rfl | rfl
    · exact ha.grow hB
    · exact hb.grow hB)) ?_
  intro w5 H _
  refine JL.pure rfl rfl ?_
  refine JL.cases 34 rfl ?_ ?_
  · intro h34
    (try simp only [Bool.not_eq_true', Bool.not_eq_false', decide_eq_true_eq, decide_eq_false_iff_not] at h34)
    
    refine JL.pass rfl rfl rfl rfl ?_
    refine JL.pass rfl rfl rfl rfl ?_
    refine JL.pure rfl rfl ?_
    refine JL.nil ?_
    ((repeat refine Ex.normal_block ?_); refine Ex.next ?_)
    ((repeat refine JC.seq ?_); refine JC.cond rfl (fun _ => ?_) (fun h => by cases h))
    ((repeat refine JC.seq ?_); refine JC.region ?_)
    refine JL.pure rfl rfl ?_
    refine JL.pure rfl rfl ?_
    refine JL.nil ?_
    ((repeat refine Ex.normal_block ?_); refine Ex.next ?_)
    ((repeat refine JC.seq ?_); refine JC.ret ?_)
    (repeat (first | refine Ex.ret_then ?_ | refine Ex.ret_block ?_))
    refine Ex.ret1 rfl (.tmp rfl) ⟨?_, H.below⟩
    first
      | rfl
      | simp_all
  · intro h34
    (try simp only [Bool.not_eq_true', Bool.not_eq_false', decide_eq_true_eq, decide_eq_false_iff_not] at h34)
    have hsm := great_small (g := g) (n := 4096) (l := [a, b]) (by simpa using h34)
    have hs : g.ok = true → g.W * g.H ≤ 4096 := fun h => by have := hsm.1 h; omega
    have hB0 := H.below
    have l1 := bool_arg hs (a := a) (b := b)
    have l2 := bool_law hs (a := a) (b := b)
    obtain ⟨E, hE⟩ : ∃ E, E = eitherR g a b := ⟨_, rfl⟩
    obtain ⟨B, hB⟩ : ∃ B, B = bothR g a b := ⟨_, rfl⟩
    obtain ⟨W, hW⟩ : ∃ W, W = withoutR g a b := ⟨_, rfl⟩
    obtain ⟨S, hS⟩ : ∃ S, S = seaR g := ⟨_, rfl⟩
    rw [← hE, ← hB, ← hW] at l1
    rw [← hE, ← hB, ← hW, ← hS] at l2
    have nE : E.1.length ≤ 8192 := by rw [hE]; exact eitherR_len _ _ _
    have nB : B.1.length ≤ 8192 := by rw [hB]; exact bothR_len _ _ _
    have nW : W.1.length ≤ 8192 := by rw [hW]; exact withoutR_len _ _ _
    have nS : S.1.length ≤ 8192 := by rw [hS]; exact seaR_len _
    have cE : ∀ w1, Below w.heap.size w w1 → Calls Try.prog 54 #[g.ev (.slice la g.land.length lc), .slice aa a.length ac, .slice ba b.length bc] w1 (fun e w' => ResR w1 w' [] E e) := fun w1 h => by rw [hE]; exact either_c g _ _ _ a b w1 (hl.grow h) (ha.grow h) (hb.grow h) hca hcb
    have cB : ∀ w1, Below w.heap.size w w1 → Calls Try.prog 42 #[g.ev (.slice la g.land.length lc), .slice aa a.length ac, .slice ba b.length bc] w1 (fun e w' => ResR w1 w' [] B e) := fun w1 h => by rw [hB]; exact both2_c g _ _ _ a b w1 (hl.grow h) (ha.grow h) (hb.grow h) hca hcb
    have cW : ∀ w1, Below w.heap.size w w1 → Calls Try.prog 57 #[g.ev (.slice la g.land.length lc), .slice aa a.length ac, .slice ba b.length bc] w1 (fun e w' => ResR w1 w' [] W e) := fun w1 h => by rw [hW]; exact without_c g _ _ _ a b w1 (hl.grow h) (ha.grow h) (hb.grow h) hca hcb
    have cS : ∀ w1, Below w.heap.size w w1 → Calls Try.prog 98 #[g.ev (.slice la g.land.length lc)] w1 (fun e w' => ResR w1 w' [] S e) := fun w1 h => by rw [hS]; exact sea_c g _ w1 (hl.grow h) hcl
    clear hE hB hW hS
    refine JL.want rfl rfl ?_
    refine JL.pure rfl rfl ?_
    refine JL.want rfl rfl ?_
    refine JL.pure rfl rfl ?_
    refine JL.pure rfl rfl ?_
    refine JL.nil ?_
    ((repeat refine Ex.normal_block ?_); refine Ex.next ?_)
    ((repeat refine JC.seq ?_); refine JC.cond rfl (fun h => by cases h) (fun _ => ?_))
    ((repeat refine JC.seq ?_); refine JC.skip ?_)
    ((repeat refine Ex.normal_block ?_); refine Ex.next ?_)
    ((repeat refine JC.seq ?_); refine JC.region ?_)
    refine JL.loadB 2 H rfl sh52 rfl rfl rfl ?_
    refine JL.pure rfl rfl ?_
    refine JL.pure rfl rfl ?_
    refine JL.call fb54 rfl rfl (cE _ H.below) ?_
    rintro _ w6 ⟨vx1, rfl, K⟩
    obtain ⟨ax1, cx1, rfl⟩ := K.row_slice (j := 0) rfl
    have H := H.join K
    refine ⟨_, rfl, ?_⟩
    refine JL.pure rfl rfl ?_
    refine JL.pure rfl rfl ?_
    refine JL.pure rfl rfl ?_
    refine JL.pure rfl rfl ?_
    refine JL.pure rfl rfl ?_
    refine JL.nil ?_
    ((repeat refine Ex.normal_block ?_); refine Ex.next ?_)
    ((repeat refine JC.seq ?_); refine JC.region ?_)
    refine JL.loadB 3 H rfl sh52 rfl rfl rfl ?_
    refine JL.pure rfl rfl ?_
    refine JL.pure rfl rfl ?_
    refine JL.call fb42 rfl rfl (cB _ H.below) ?_
    rintro _ w7 ⟨vx2, rfl, K⟩
    obtain ⟨ax2, cx2, rfl⟩ := K.row_slice (j := 0) rfl
    have H := H.join K
    refine ⟨_, rfl, ?_⟩
    refine JL.pure rfl rfl ?_
    refine JL.pure rfl rfl ?_
    refine JL.pure rfl rfl ?_
    refine JL.pure rfl rfl ?_
    refine JL.pure rfl rfl ?_
    refine JL.nil ?_
    ((repeat refine Ex.normal_block ?_); refine Ex.next ?_)
    ((repeat refine JC.seq ?_); refine JC.region ?_)
    refine JL.loadB 4 H rfl sh52 rfl rfl rfl ?_
    refine JL.pure rfl rfl ?_
    refine JL.pure rfl rfl ?_
    refine JL.call fb57 rfl rfl (cW _ H.below) ?_
    rintro _ w8 ⟨vx3, rfl, K⟩
    obtain ⟨ax3, cx3, rfl⟩ := K.row_slice (j := 0) rfl
    have H := H.join K
    refine ⟨_, rfl, ?_⟩
    refine JL.pure rfl rfl ?_
    refine JL.pure rfl rfl ?_
    refine JL.pure rfl rfl ?_
    refine JL.pure rfl rfl ?_
    refine JL.pure rfl rfl ?_
    refine JL.nil ?_
    ((repeat refine Ex.normal_block ?_); refine Ex.next ?_)
    ((repeat refine JC.seq ?_); refine JC.region ?_)
    refine JL.pure rfl rfl ?_
    refine JL.pure rfl rfl ?_
    refine JL.nil ?_
    ((repeat refine Ex.normal_block ?_); refine Ex.next ?_)
    ((repeat refine JC.seq ?_); refine JC.cond rfl ?_ ?_)
    · intro h61
      (try simp only [Bool.not_eq_true', Bool.not_eq_false', decide_eq_true_eq, decide_eq_false_iff_not] at h61)
      obtain ⟨rfl, rfl, rfl⟩ := l1 h61
      ((repeat refine JC.seq ?_); refine JC.region ?_)
      refine JL.pure rfl rfl ?_
      refine JL.pure rfl rfl ?_
      refine JL.want rfl rfl ?_
      refine JL.pure rfl rfl ?_
      refine JL.want rfl rfl ?_
      refine JL.pure rfl rfl ?_
      refine JL.want rfl rfl ?_
      refine JL.pure rfl rfl ?_
      refine JL.re 66 rfl (v' := .bool true) (rfl) ?_
      refine JL.pure rfl rfl ?_
      refine JL.pure rfl rfl ?_
      refine JL.want rfl rfl ?_
      refine JL.pure rfl rfl ?_
      refine JL.want rfl rfl ?_
      refine JL.pure rfl rfl ?_
      refine JL.want rfl rfl ?_
      refine JL.pure rfl rfl ?_
      refine JL.re 71 rfl (v' := .bool true) (rfl) ?_
      refine JL.pure rfl rfl ?_
      refine JL.pure rfl rfl ?_
      refine JL.want rfl rfl ?_
      refine JL.pure rfl rfl ?_
      refine JL.want rfl rfl ?_
      refine JL.len rfl Try.underlying50 rfl ?_
      refine JL.want rfl rfl ?_
      refine JL.pure rfl rfl ?_
      refine JL.want rfl rfl ?_
      refine JL.len rfl Try.underlying50 rfl ?_
      refine JL.want rfl rfl ?_
      refine JL.arith rfl (by unfold In64; omega) rfl ?_
      refine JL.want rfl rfl ?_
      refine JL.pure rfl rfl ?_
      refine JL.want rfl rfl ?_
      refine JL.len rfl Try.underlying50 rfl ?_
      refine JL.want rfl rfl ?_
      refine JL.arith rfl (by unfold In64; omega) rfl ?_
      refine JL.want rfl rfl ?_
      refine JL.pure rfl rfl ?_
      refine JL.re 82 rfl (v' := .bool true) (rfl) ?_
      refine JL.pure rfl rfl ?_
      refine JL.pure rfl rfl ?_
      refine JL.nil ?_
      ((repeat refine Ex.normal_block ?_); refine Ex.next ?_)
      ((repeat refine JC.seq ?_); refine JC.ret ?_)
      (repeat (first | refine Ex.ret_then ?_ | refine Ex.ret_block ?_))
      refine Ex.ret1 rfl (.tmp rfl) ⟨?_, H.below⟩
      first
        | rfl
        | simp_all
    · intro h61
      (try simp only [Bool.not_eq_true', Bool.not_eq_false', decide_eq_true_eq, decide_eq_false_iff_not] at h61)
      have hL := l2 h61
      clear l1 l2
      have tE := tame_right (Grid.ok_b hL.ok).1.2 (canon_of_right hL.re)
      have tB := tame_right (Grid.ok_b hL.ok).1.2 (canon_of_right hL.rb)
      have tW := tame_right (Grid.ok_b hL.ok).1.2 (canon_of_right hL.rw)
      have ta := tame_right (Grid.ok_b hL.ok).1.2 hL.ca
      have tb := tame_right (Grid.ok_b hL.ok).1.2 hL.cb
      have dE := countR_bd tE
      have dB := countR_bd tB
      have dW := countR_bd tW
      have da := countR_bd ta
      have db := countR_bd tb
      have na : a.length ≤ 300 := hsm.2.2 a (by simp)
      have nb : b.length ≤ 300 := hsm.2.2 b (by simp)
      ((repeat refine JC.seq ?_); refine JC.skip ?_)
      ((repeat refine Ex.normal_block ?_); refine Ex.next ?_)
      ((repeat refine JC.seq ?_); refine JC.region ?_)
      refine JL.loadB 5 H rfl sh52 rfl rfl rfl ?_
      refine JL.call fb98 rfl rfl (cS _ H.below) ?_
      rintro _ w9 ⟨vx4, rfl, K⟩
      obtain ⟨ax4, cx4, rfl⟩ := K.row_slice (j := 0) rfl
      have H := H.join K
      refine ⟨_, rfl, ?_⟩
      refine JL.pure rfl rfl ?_
      refine JL.pure rfl rfl ?_
      refine JL.pure rfl rfl ?_
      refine JL.pure rfl rfl ?_
      refine JL.pure rfl rfl ?_
      refine JL.nil ?_
      ((repeat refine Ex.normal_block ?_); refine Ex.next ?_)
      ((repeat refine JC.seq ?_); refine JC.region ?_)
      refine JL.loadB 6 H rfl sh52 rfl rfl rfl ?_
      refine JL.pure rfl rfl ?_
      refine JL.call fb49 rfl rfl (cells49_c g _ (.slice aa a.length ac) a _ (hl.grow H.below) (ha.grow H.below)) ?_
      rw [hL.c0]
      rintro _ w10 ⟨cv, rfl, K⟩
      obtain ⟨ca, cc, rfl⟩ := K.row_slice (j := 0) rfl
      have H := H.join K
      refine ⟨_, rfl, ?_⟩
      refine JL.pure rfl rfl ?_
      refine JL.pure rfl rfl ?_
      refine JL.pure rfl rfl ?_
      refine JL.pure rfl rfl ?_
      refine JL.pure rfl rfl ?_
      refine JL.nil ?_
      ((repeat refine Ex.normal_block ?_); refine Ex.next ?_)
      ((repeat refine JC.seq ?_); refine JC.region ?_)
      refine JL.loadB 7 H rfl sh52 rfl rfl rfl ?_
      refine JL.pure rfl rfl ?_
      refine JL.call fb99 rfl rfl (region99_c g _ _ (cellsAll a) _ (hl.grow H.below) (H.rowSl (j := 0) (enc := Cell.cs) (fun _ => rfl) rfl (by have := hL.clen; omega)) hL.ok hL.cells hL.clen) ?_
      rw [hL.reg]
      rintro _ w11 ⟨rv, rfl, K⟩
      have H := H.join K
      refine ⟨_, rfl, ?_⟩
      refine JL.pure rfl rfl ?_
      refine JL.pure rfl rfl ?_
      refine JL.pure rfl rfl ?_
      refine JL.pure rfl rfl ?_
      refine JL.pure rfl rfl ?_
      refine JL.nil ?_
      ((repeat refine Ex.normal_block ?_); refine Ex.next ?_)
      ((repeat refine JC.seq ?_); refine JC.region ?_)
      refine JL.pure rfl rfl ?_
      refine JL.pure rfl rfl ?_
      refine JL.re 102 rfl (v' := .bool false) (by simp [hL.e0]) ?_
      refine JL.pure rfl rfl ?_
      refine JL.want rfl rfl ?_
      refine JL.pure rfl rfl ?_
      refine JL.want rfl rfl ?_
      refine JL.pure rfl rfl ?_
      refine JL.re 105 rfl (v' := .bool false) (by simp [hL.b0]) ?_
      refine JL.pure rfl rfl ?_
      refine JL.pure rfl rfl ?_
      refine JL.want rfl rfl ?_
      refine JL.pure rfl rfl ?_
      refine JL.want rfl rfl ?_
      refine JL.pure rfl rfl ?_
      refine JL.re 109 rfl (v' := .bool false) (by simp [hL.w0]) ?_
      refine JL.pure rfl rfl ?_
      refine JL.pure rfl rfl ?_
      refine JL.want rfl rfl ?_
      refine JL.pure rfl rfl ?_
      refine JL.want rfl rfl ?_
      refine JL.pure rfl rfl ?_
      refine JL.re 113 rfl (v' := .bool false) (by simp [hL.se0]) ?_
      refine JL.pure rfl rfl ?_
      refine JL.pure rfl rfl ?_
      refine JL.want rfl rfl ?_
      refine JL.pure rfl rfl ?_
      refine JL.want rfl rfl ?_
      refine JL.pure rfl rfl ?_
      refine JL.re 117 rfl (v' := .bool false) (rfl) ?_
      refine JL.pure rfl rfl ?_
      refine JL.pure rfl rfl ?_
      refine JL.want rfl rfl ?_
      refine JL.pure rfl rfl ?_
      refine JL.want rfl rfl ?_
      refine JL.pure rfl rfl ?_
      refine JL.re 121 rfl (v' := .bool false) (rfl) ?_
      refine JL.pure rfl rfl ?_
      refine JL.pure rfl rfl ?_
      refine JL.want rfl rfl ?_
      refine JL.pure rfl rfl ?_
      refine JL.want rfl rfl ?_
      refine JL.pure rfl rfl ?_
      refine JL.want rfl rfl ?_
      refine JL.callP H fb67 rfl rfl (v := .bool true) (by have := same_c rv _ a a _ (runSl H (j := 0) rfl (by omega)) (ha.grow H.below); simpa using this) ?_
      intro w12 H _
      refine JL.want rfl rfl ?_
      refine JL.pure rfl rfl ?_
      refine JL.pure rfl rfl ?_
      refine JL.pure rfl rfl ?_
      refine JL.want rfl rfl ?_
      refine JL.pure rfl rfl ?_
      refine JL.want rfl rfl ?_
      refine JL.len rfl Try.underlying68 rfl ?_
      refine JL.want rfl rfl ?_
      refine JL.pure rfl rfl ?_
      refine JL.want rfl rfl ?_
      refine JL.callP H fb94 rfl rfl (count_c _ a _ (ha.grow H.below) ta (by omega)) ?_
      intro w13 H _
      refine JL.want rfl rfl ?_
      refine JL.pure rfl rfl ?_
      refine JL.re 134 rfl (v' := .bool false) (by simp [hL.len]) ?_
      refine JL.pure rfl rfl ?_
      refine JL.nil ?_
      ((repeat refine Ex.normal_block ?_); refine Ex.next ?_)
      ((repeat refine JC.seq ?_); refine JC.cond rfl (fun h => by cases h) (fun _ => ?_))
      ((repeat refine JC.seq ?_); refine JC.skip ?_)
      ((repeat refine Ex.normal_block ?_); refine Ex.next ?_)
      ((repeat refine JC.seq ?_); refine JC.draw 8 H mixed (by kernel_rfl) rfl ?_)
      refine JD.pure rfl rfl ?_
      refine JD.loadB 7 rfl sh62 rfl rfl rfl ?_
      refine JD.call fb48 rfl rfl (fun w hw => has_c _ a c w (ha.grow hw.below)) ?_
      refine JD.pure rfl rfl ?_
      refine JD.loadB 7 rfl sh62 rfl rfl rfl ?_
      refine JD.call fb48 rfl rfl (fun w hw => has_c _ b c w (hb.grow hw.below)) ?_
      refine JD.pure rfl rfl ?_
      refine JD.pure rfl rfl ?_
      refine JD.nil ?_
      intro w14 H
      show JL _ _ _ _ _ _ _
      refine JL.nil ?_
      ((repeat refine Ex.normal_block ?_); refine Ex.next ?_)
      ((repeat refine JC.seq ?_); refine JC.regionTo ([(1, .slice aa a.length ac), (2, .slice ba b.length bc), (4, .pointer (some ⟨b4, 0, none⟩)), (7, .pointer (some ⟨b7, 0, none⟩)), (9, .bool true), (10, .slice ax1 E.1.length cx1), (12, .slice ax2 B.1.length cx2), (14, .slice ax3 W.1.length cx3), (16, .slice ax4 S.1.length cx4), (22, .bool (hasB a c)), (23, .bool (hasB b c)), (24, .bool (decide (inG g c)))]) (fun wr => Own w wr [runRow rv a, cellRow (.slice ca (cellsAll a).length cc) (cellsAll a), runRow (.slice ax4 S.1.length cx4) S.1, runRow (.slice ax3 W.1.length cx3) W.1, runRow (.slice ax2 B.1.length cx2) B.1, runRow (.slice ax1 E.1.length cx1) E.1, blk b32 (.cells ⟨[.slice aa a.length ac, .slice ba b.length bc]⟩ 50 (0, 0)), blk b7 (.cells ⟨[.int .i64 c.X, .int .i64 c.Y]⟩ 62 (0, 0)), blk b4 (.cells ⟨[.int .i64 g.W, .int .i64 g.H, .int .i64 g.S, .slice la g.land.length lc]⟩ 52 (0, 0))]) ?_ ?_)
      ·
        refine JL.fieldAddr rfl Try.underlying62 rfl sh3 rfl ?_
        refine JL.loadB 7 H rfl sh3 rfl rfl rfl ?_
        refine JL.pure rfl rfl ?_
        refine JL.pure rfl rfl ?_
        refine JL.cases 145 rfl ?_ ?_
        · intro h145
          (try simp only [Bool.not_eq_true', Bool.not_eq_false', decide_eq_true_eq, decide_eq_false_iff_not] at h145)
          refine JL.want rfl rfl ?_
          refine JL.fieldAddr rfl Try.underlying62 rfl sh3 rfl ?_
          refine JL.want rfl rfl ?_
          refine JL.loadB 7 H rfl sh3 rfl rfl rfl ?_
          refine JL.want rfl rfl ?_
          refine JL.fieldAddr rfl Try.underlying52 rfl sh3 rfl ?_
          refine JL.want rfl rfl ?_
          refine JL.loadB 8 H rfl sh3 rfl rfl rfl ?_
          refine JL.want rfl rfl ?_
          refine JL.pure rfl rfl ?_
          refine JL.pure rfl rfl ?_
          refine JL.pure rfl rfl ?_
          refine JL.cases 152 rfl ?_ ?_
          · intro h152
            (try simp only [Bool.not_eq_true', Bool.not_eq_false', decide_eq_true_eq, decide_eq_false_iff_not] at h152)
            refine JL.want rfl rfl ?_
            refine JL.fieldAddr rfl Try.underlying62 rfl sh3 rfl ?_
            refine JL.want rfl rfl ?_
            refine JL.loadB 7 H rfl sh3 rfl rfl rfl ?_
            refine JL.want rfl rfl ?_
            refine JL.pure rfl rfl ?_
            refine JL.pure rfl rfl ?_
            refine JL.pure rfl rfl ?_
            refine JL.cases 157 rfl ?_ ?_
            · intro h157
              (try simp only [Bool.not_eq_true', Bool.not_eq_false', decide_eq_true_eq, decide_eq_false_iff_not] at h157)
              refine JL.want rfl rfl ?_
              refine JL.fieldAddr rfl Try.underlying62 rfl sh3 rfl ?_
              refine JL.want rfl rfl ?_
              refine JL.loadB 7 H rfl sh3 rfl rfl rfl ?_
              refine JL.want rfl rfl ?_
              refine JL.fieldAddr rfl Try.underlying52 rfl sh3 rfl ?_
              refine JL.want rfl rfl ?_
              refine JL.loadB 8 H rfl sh3 rfl rfl rfl ?_
              refine JL.want rfl rfl ?_
              refine JL.pure rfl rfl ?_
              refine JL.pure rfl rfl ?_
              refine JL.pure rfl rfl ?_
              refine JL.nil ?_
              refine Ex.to ⟨rfl, rfl, rfl, rfl, rfl, rfl, rfl, rfl, rfl, rfl, rfl, ?_, trivial⟩ H
              show some (Value.bool _) = some (Value.bool _)
              congr 2
              rw [Bool.eq_iff_iff]
              simp only [decide_eq_true_eq, Bool.false_eq_true, false_iff]
              unfold inG
              omega
            · intro h157
              (try simp only [Bool.not_eq_true', Bool.not_eq_false', decide_eq_true_eq, decide_eq_false_iff_not] at h157)
              refine JL.pass rfl rfl rfl rfl ?_
              refine JL.pass rfl rfl rfl rfl ?_
              refine JL.pass rfl rfl rfl rfl ?_
              refine JL.pass rfl rfl rfl rfl ?_
              refine JL.pass rfl rfl rfl rfl ?_
              refine JL.pure rfl rfl ?_
              refine JL.pure rfl rfl ?_
              refine JL.nil ?_
              refine Ex.to ⟨rfl, rfl, rfl, rfl, rfl, rfl, rfl, rfl, rfl, rfl, rfl, ?_, trivial⟩ H
              show some (Value.bool _) = some (Value.bool _)
              congr 2
              rw [Bool.eq_iff_iff]
              simp only [decide_eq_true_eq, Bool.false_eq_true, false_iff]
              unfold inG
              omega
          · intro h152
            (try simp only [Bool.not_eq_true', Bool.not_eq_false', decide_eq_true_eq, decide_eq_false_iff_not] at h152)
            refine JL.pass rfl rfl rfl rfl ?_
            refine JL.pass rfl rfl rfl rfl ?_
            refine JL.pass rfl rfl rfl rfl ?_
            refine JL.pure rfl rfl ?_
            refine JL.pure rfl rfl ?_
            refine JL.pass rfl rfl rfl rfl ?_
            refine JL.pass rfl rfl rfl rfl ?_
            refine JL.pass rfl rfl rfl rfl ?_
            refine JL.pass rfl rfl rfl rfl ?_
            refine JL.pass rfl rfl rfl rfl ?_
            refine JL.pure rfl rfl ?_
            refine JL.pure rfl rfl ?_
            refine JL.nil ?_
            refine Ex.to ⟨rfl, rfl, rfl, rfl, rfl, rfl, rfl, rfl, rfl, rfl, rfl, ?_, trivial⟩ H
            show some (Value.bool _) = some (Value.bool _)
            congr 2
            rw [Bool.eq_iff_iff]
            simp only [decide_eq_true_eq, Bool.false_eq_true, false_iff]
            unfold inG
            omega
        · intro h145
          (try simp only [Bool.not_eq_true', Bool.not_eq_false', decide_eq_true_eq, decide_eq_false_iff_not] at h145)
          refine JL.pass rfl rfl rfl rfl ?_
          refine JL.pass rfl rfl rfl rfl ?_
          refine JL.pass rfl rfl rfl rfl ?_
          refine JL.pass rfl rfl rfl rfl ?_
          refine JL.pass rfl rfl rfl rfl ?_
          refine JL.pure rfl rfl ?_
          refine JL.pure rfl rfl ?_
          refine JL.pass rfl rfl rfl rfl ?_
          refine JL.pass rfl rfl rfl rfl ?_
          refine JL.pass rfl rfl rfl rfl ?_
          refine JL.pure rfl rfl ?_
          refine JL.pure rfl rfl ?_
          refine JL.pass rfl rfl rfl rfl ?_
          refine JL.pass rfl rfl rfl rfl ?_
          refine JL.pass rfl rfl rfl rfl ?_
          refine JL.pass rfl rfl rfl rfl ?_
          refine JL.pass rfl rfl rfl rfl ?_
          refine JL.pure rfl rfl ?_
          refine JL.pure rfl rfl ?_
          refine JL.nil ?_
          refine Ex.to ⟨rfl, rfl, rfl, rfl, rfl, rfl, rfl, rfl, rfl, rfl, rfl, ?_, trivial⟩ H
          show some (Value.bool _) = some (Value.bool _)
          congr 2
          rw [Bool.eq_iff_iff]
          simp only [decide_eq_true_eq, Bool.false_eq_true, false_iff]
          unfold inG
          omega
      · intro wc H
        ((repeat refine Ex.normal_block ?_); refine Ex.next ?_)
        ((repeat refine JC.seq ?_); refine JC.regionTo ([(1, .slice aa a.length ac), (2, .slice ba b.length bc), (4, .pointer (some ⟨b4, 0, none⟩)), (7, .pointer (some ⟨b7, 0, none⟩)), (9, .bool true), (10, .slice ax1 E.1.length cx1), (12, .slice ax2 B.1.length cx2), (14, .slice ax3 W.1.length cx3), (16, .slice ax4 S.1.length cx4), (22, .bool (hasB a c)), (23, .bool (hasB b c)), (24, .bool (decide (inG g c))), (25, .bool true)]) (fun wr => Own w wr [runRow rv a, cellRow (.slice ca (cellsAll a).length cc) (cellsAll a), runRow (.slice ax4 S.1.length cx4) S.1, runRow (.slice ax3 W.1.length cx3) W.1, runRow (.slice ax2 B.1.length cx2) B.1, runRow (.slice ax1 E.1.length cx1) E.1, blk b32 (.cells ⟨[.slice aa a.length ac, .slice ba b.length bc]⟩ 50 (0, 0)), blk b7 (.cells ⟨[.int .i64 c.X, .int .i64 c.Y]⟩ 62 (0, 0)), blk b4 (.cells ⟨[.int .i64 g.W, .int .i64 g.H, .int .i64 g.S, .slice la g.land.length lc]⟩ 52 (0, 0))]) ?_ ?_)
        ·
          refine JL.pure rfl rfl ?_
          refine JL.loadB 7 H rfl sh62 rfl rfl rfl ?_
          refine JL.callP H fb48 rfl rfl (v := .bool (hasB a c || hasB b c)) (by have := has_c _ E.1 c _ (runSl H (j := 5) rfl (by omega)); rw [hL.eh] at this; exact this) ?_
          intro w15 H _
          refine JL.pure rfl rfl ?_
          refine JL.pure rfl rfl ?_
          refine JL.cases 168 rfl ?_ ?_
          · intro h168
            (try simp only [Bool.not_eq_true', Bool.not_eq_false', decide_eq_true_eq, decide_eq_false_iff_not] at h168)
            refine JL.pass rfl rfl rfl rfl ?_
            refine JL.pure rfl rfl ?_
            refine JL.eqs rfl rfl (eqBool 4 Try.underlying4 _ _) rfl ?_
            refine JL.pure rfl rfl ?_
            refine JL.cases 172 rfl ?_ ?_
            · intro h172
              (try simp only [Bool.not_eq_true', Bool.not_eq_false', decide_eq_true_eq, decide_eq_false_iff_not] at h172)
              refine JL.want rfl rfl ?_
              refine JL.pure rfl rfl ?_
              refine JL.want rfl rfl ?_
              refine JL.loadB 7 H rfl sh62 rfl rfl rfl ?_
              refine JL.want rfl rfl ?_
              refine JL.callP H fb48 rfl rfl (v := .bool (hasB a c && hasB b c)) (by have := has_c _ B.1 c _ (runSl H (j := 4) rfl (by omega)); rw [hL.bh] at this; exact this) ?_
              intro w16 H _
              refine JL.want rfl rfl ?_
              refine JL.pure rfl rfl ?_
              refine JL.want rfl rfl ?_
              refine JL.pure rfl rfl ?_
              refine JL.cases 177 rfl ?_ ?_
              · intro h177
                (try simp only [Bool.not_eq_true', Bool.not_eq_false', decide_eq_true_eq, decide_eq_false_iff_not] at h177)
                refine JL.want rfl rfl ?_
                refine JL.pure rfl rfl ?_
                refine JL.want rfl rfl ?_
                refine JL.pure rfl rfl ?_
                refine JL.want rfl rfl ?_
                refine JL.eqs rfl rfl (eqBool 4 Try.underlying4 _ _) rfl ?_
                refine JL.pure rfl rfl ?_
                refine JL.pure rfl rfl ?_
                refine JL.cases 182 rfl ?_ ?_
                · intro h182
                  (try simp only [Bool.not_eq_true', Bool.not_eq_false', decide_eq_true_eq, decide_eq_false_iff_not] at h182)
                  refine JL.want rfl rfl ?_
                  refine JL.pure rfl rfl ?_
                  refine JL.want rfl rfl ?_
                  refine JL.loadB 7 H rfl sh62 rfl rfl rfl ?_
                  refine JL.want rfl rfl ?_
                  refine JL.callP H fb48 rfl rfl (v := .bool (hasB a c && !hasB b c)) (by have := has_c _ W.1 c _ (runSl H (j := 3) rfl (by omega)); rw [hL.wh] at this; exact this) ?_
                  intro w17 H _
                  refine JL.want rfl rfl ?_
                  refine JL.pure rfl rfl ?_
                  refine JL.want rfl rfl ?_
                  refine JL.pure rfl rfl ?_
                  refine JL.cases 187 rfl ?_ ?_
                  · intro h187
                    (try simp only [Bool.not_eq_true', Bool.not_eq_false', decide_eq_true_eq, decide_eq_false_iff_not] at h187)
                    refine JL.want rfl rfl ?_
                    refine JL.pure rfl rfl ?_
                    refine JL.want rfl rfl ?_
                    refine JL.pure rfl rfl ?_
                    refine JL.want rfl rfl ?_
                    refine JL.pure rfl rfl ?_
                    refine JL.want rfl rfl ?_
                    refine JL.eqs rfl rfl (eqBool 4 Try.underlying4 _ _) rfl ?_
                    refine JL.pure rfl rfl ?_
                    refine JL.pure rfl rfl ?_
                    refine JL.nil ?_
                    refine Ex.to ⟨rfl, rfl, rfl, rfl, rfl, rfl, rfl, rfl, rfl, rfl, rfl, rfl, ?_, trivial⟩ H
                    show some (Value.bool _) = some (Value.bool _)
                    simp_all
                  · intro h187
                    (try simp only [Bool.not_eq_true', Bool.not_eq_false', decide_eq_true_eq, decide_eq_false_iff_not] at h187)
                    refine JL.pass rfl rfl rfl rfl ?_
                    refine JL.pass rfl rfl rfl rfl ?_
                    refine JL.want rfl rfl ?_
                    refine JL.pure rfl rfl ?_
                    refine JL.want rfl rfl ?_
                    refine JL.eqs rfl rfl (eqBool 4 Try.underlying4 _ _) rfl ?_
                    refine JL.pure rfl rfl ?_
                    refine JL.pure rfl rfl ?_
                    refine JL.nil ?_
                    refine Ex.to ⟨rfl, rfl, rfl, rfl, rfl, rfl, rfl, rfl, rfl, rfl, rfl, rfl, ?_, trivial⟩ H
                    show some (Value.bool _) = some (Value.bool _)
                    simp_all
                · intro h182
                  (try simp only [Bool.not_eq_true', Bool.not_eq_false', decide_eq_true_eq, decide_eq_false_iff_not] at h182)
                  refine JL.pass rfl rfl rfl rfl ?_
                  refine JL.pass rfl rfl rfl rfl ?_
                  refine JL.pass rfl rfl rfl rfl ?_
                  refine JL.pass rfl rfl rfl rfl ?_
                  refine JL.pass rfl rfl rfl rfl ?_
                  refine JL.passU rfl rfl rfl ?_
                  refine JL.passU rfl rfl rfl ?_
                  refine JL.pass rfl rfl rfl rfl ?_
                  refine JL.pass rfl rfl rfl rfl ?_
                  refine JL.pure rfl rfl ?_
                  refine JL.pure rfl rfl ?_
                  refine JL.nil ?_
                  refine Ex.to ⟨rfl, rfl, rfl, rfl, rfl, rfl, rfl, rfl, rfl, rfl, rfl, rfl, ?_, trivial⟩ H
                  show some (Value.bool _) = some (Value.bool _)
                  simp_all
              · intro h177
                (try simp only [Bool.not_eq_true', Bool.not_eq_false', decide_eq_true_eq, decide_eq_false_iff_not] at h177)
                refine JL.pass rfl rfl rfl rfl ?_
                refine JL.want rfl rfl ?_
                refine JL.pure rfl rfl ?_
                refine JL.want rfl rfl ?_
                refine JL.eqs rfl rfl (eqBool 4 Try.underlying4 _ _) rfl ?_
                refine JL.pure rfl rfl ?_
                refine JL.pure rfl rfl ?_
                refine JL.cases 182 rfl ?_ ?_
                · intro h182
                  (try simp only [Bool.not_eq_true', Bool.not_eq_false', decide_eq_true_eq, decide_eq_false_iff_not] at h182)
                  refine JL.want rfl rfl ?_
                  refine JL.pure rfl rfl ?_
                  refine JL.want rfl rfl ?_
                  refine JL.loadB 7 H rfl sh62 rfl rfl rfl ?_
                  refine JL.want rfl rfl ?_
                  refine JL.callP H fb48 rfl rfl (v := .bool (hasB a c && !hasB b c)) (by have := has_c _ W.1 c _ (runSl H (j := 3) rfl (by omega)); rw [hL.wh] at this; exact this) ?_
                  intro w18 H _
                  refine JL.want rfl rfl ?_
                  refine JL.pure rfl rfl ?_
                  refine JL.want rfl rfl ?_
                  refine JL.pure rfl rfl ?_
                  refine JL.cases 187 rfl ?_ ?_
                  · intro h187
                    (try simp only [Bool.not_eq_true', Bool.not_eq_false', decide_eq_true_eq, decide_eq_false_iff_not] at h187)
                    refine JL.want rfl rfl ?_
                    refine JL.pure rfl rfl ?_
                    refine JL.want rfl rfl ?_
                    refine JL.pure rfl rfl ?_
                    refine JL.want rfl rfl ?_
                    refine JL.pure rfl rfl ?_
                    refine JL.want rfl rfl ?_
                    refine JL.eqs rfl rfl (eqBool 4 Try.underlying4 _ _) rfl ?_
                    refine JL.pure rfl rfl ?_
                    refine JL.pure rfl rfl ?_
                    refine JL.nil ?_
                    refine Ex.to ⟨rfl, rfl, rfl, rfl, rfl, rfl, rfl, rfl, rfl, rfl, rfl, rfl, ?_, trivial⟩ H
                    show some (Value.bool _) = some (Value.bool _)
                    simp_all
                  · intro h187
                    (try simp only [Bool.not_eq_true', Bool.not_eq_false', decide_eq_true_eq, decide_eq_false_iff_not] at h187)
                    refine JL.pass rfl rfl rfl rfl ?_
                    refine JL.pass rfl rfl rfl rfl ?_
                    refine JL.want rfl rfl ?_
                    refine JL.pure rfl rfl ?_
                    refine JL.want rfl rfl ?_
                    refine JL.eqs rfl rfl (eqBool 4 Try.underlying4 _ _) rfl ?_
                    refine JL.pure rfl rfl ?_
                    refine JL.pure rfl rfl ?_
                    refine JL.nil ?_
                    refine Ex.to ⟨rfl, rfl, rfl, rfl, rfl, rfl, rfl, rfl, rfl, rfl, rfl, rfl, ?_, trivial⟩ H
                    show some (Value.bool _) = some (Value.bool _)
                    simp_all
                · intro h182
                  (try simp only [Bool.not_eq_true', Bool.not_eq_false', decide_eq_true_eq, decide_eq_false_iff_not] at h182)
                  refine JL.pass rfl rfl rfl rfl ?_
                  refine JL.pass rfl rfl rfl rfl ?_
                  refine JL.pass rfl rfl rfl rfl ?_
                  refine JL.pass rfl rfl rfl rfl ?_
                  refine JL.pass rfl rfl rfl rfl ?_
                  refine JL.passU rfl rfl rfl ?_
                  refine JL.passU rfl rfl rfl ?_
                  refine JL.pass rfl rfl rfl rfl ?_
                  refine JL.pass rfl rfl rfl rfl ?_
                  refine JL.pure rfl rfl ?_
                  refine JL.pure rfl rfl ?_
                  refine JL.nil ?_
                  refine Ex.to ⟨rfl, rfl, rfl, rfl, rfl, rfl, rfl, rfl, rfl, rfl, rfl, rfl, ?_, trivial⟩ H
                  show some (Value.bool _) = some (Value.bool _)
                  simp_all
            · intro h172
              (try simp only [Bool.not_eq_true', Bool.not_eq_false', decide_eq_true_eq, decide_eq_false_iff_not] at h172)
              refine JL.pass rfl rfl rfl rfl ?_
              refine JL.pass rfl rfl rfl rfl ?_
              refine JL.pass rfl rfl rfl rfl ?_
              refine JL.pass rfl rfl rfl rfl ?_
              refine JL.pass rfl rfl rfl rfl ?_
              refine JL.passU rfl rfl rfl ?_
              refine JL.pass rfl rfl rfl rfl ?_
              refine JL.pass rfl rfl rfl rfl ?_
              refine JL.pure rfl rfl ?_
              refine JL.pure rfl rfl ?_
              refine JL.pass rfl rfl rfl rfl ?_
              refine JL.pass rfl rfl rfl rfl ?_
              refine JL.pass rfl rfl rfl rfl ?_
              refine JL.pass rfl rfl rfl rfl ?_
              refine JL.pass rfl rfl rfl rfl ?_
              refine JL.passU rfl rfl rfl ?_
              refine JL.passU rfl rfl rfl ?_
              refine JL.pass rfl rfl rfl rfl ?_
              refine JL.pass rfl rfl rfl rfl ?_
              refine JL.pure rfl rfl ?_
              refine JL.pure rfl rfl ?_
              refine JL.nil ?_
              refine Ex.to ⟨rfl, rfl, rfl, rfl, rfl, rfl, rfl, rfl, rfl, rfl, rfl, rfl, ?_, trivial⟩ H
              show some (Value.bool _) = some (Value.bool _)
              simp_all
          · intro h168
            (try simp only [Bool.not_eq_true', Bool.not_eq_false', decide_eq_true_eq, decide_eq_false_iff_not] at h168)
            refine JL.want rfl rfl ?_
            refine JL.pure rfl rfl ?_
            refine JL.pure rfl rfl ?_
            refine JL.eqs rfl rfl (eqBool 4 Try.underlying4 _ _) rfl ?_
            refine JL.pure rfl rfl ?_
            refine JL.cases 172 rfl ?_ ?_
            · intro h172
              (try simp only [Bool.not_eq_true', Bool.not_eq_false', decide_eq_true_eq, decide_eq_false_iff_not] at h172)
              refine JL.want rfl rfl ?_
              refine JL.pure rfl rfl ?_
              refine JL.want rfl rfl ?_
              refine JL.loadB 7 H rfl sh62 rfl rfl rfl ?_
              refine JL.want rfl rfl ?_
              refine JL.callP H fb48 rfl rfl (v := .bool (hasB a c && hasB b c)) (by have := has_c _ B.1 c _ (runSl H (j := 4) rfl (by omega)); rw [hL.bh] at this; exact this) ?_
              intro w19 H _
              refine JL.want rfl rfl ?_
              refine JL.pure rfl rfl ?_
              refine JL.want rfl rfl ?_
              refine JL.pure rfl rfl ?_
              refine JL.cases 177 rfl ?_ ?_
              · intro h177
                (try simp only [Bool.not_eq_true', Bool.not_eq_false', decide_eq_true_eq, decide_eq_false_iff_not] at h177)
                refine JL.want rfl rfl ?_
                refine JL.pure rfl rfl ?_
                refine JL.want rfl rfl ?_
                refine JL.pure rfl rfl ?_
                refine JL.want rfl rfl ?_
                refine JL.eqs rfl rfl (eqBool 4 Try.underlying4 _ _) rfl ?_
                refine JL.pure rfl rfl ?_
                refine JL.pure rfl rfl ?_
                refine JL.cases 182 rfl ?_ ?_
                · intro h182
                  (try simp only [Bool.not_eq_true', Bool.not_eq_false', decide_eq_true_eq, decide_eq_false_iff_not] at h182)
                  refine JL.want rfl rfl ?_
                  refine JL.pure rfl rfl ?_
                  refine JL.want rfl rfl ?_
                  refine JL.loadB 7 H rfl sh62 rfl rfl rfl ?_
                  refine JL.want rfl rfl ?_
                  refine JL.callP H fb48 rfl rfl (v := .bool (hasB a c && !hasB b c)) (by have := has_c _ W.1 c _ (runSl H (j := 3) rfl (by omega)); rw [hL.wh] at this; exact this) ?_
                  intro w20 H _
                  refine JL.want rfl rfl ?_
                  refine JL.pure rfl rfl ?_
                  refine JL.want rfl rfl ?_
                  refine JL.pure rfl rfl ?_
                  refine JL.cases 187 rfl ?_ ?_
                  · intro h187
                    (try simp only [Bool.not_eq_true', Bool.not_eq_false', decide_eq_true_eq, decide_eq_false_iff_not] at h187)
                    refine JL.want rfl rfl ?_
                    refine JL.pure rfl rfl ?_
                    refine JL.want rfl rfl ?_
                    refine JL.pure rfl rfl ?_
                    refine JL.want rfl rfl ?_
                    refine JL.pure rfl rfl ?_
                    refine JL.want rfl rfl ?_
                    refine JL.eqs rfl rfl (eqBool 4 Try.underlying4 _ _) rfl ?_
                    refine JL.pure rfl rfl ?_
                    refine JL.pure rfl rfl ?_
                    refine JL.nil ?_
                    refine Ex.to ⟨rfl, rfl, rfl, rfl, rfl, rfl, rfl, rfl, rfl, rfl, rfl, rfl, ?_, trivial⟩ H
                    show some (Value.bool _) = some (Value.bool _)
                    simp_all
                  · intro h187
                    (try simp only [Bool.not_eq_true', Bool.not_eq_false', decide_eq_true_eq, decide_eq_false_iff_not] at h187)
                    refine JL.pass rfl rfl rfl rfl ?_
                    refine JL.pass rfl rfl rfl rfl ?_
                    refine JL.want rfl rfl ?_
                    refine JL.pure rfl rfl ?_
                    refine JL.want rfl rfl ?_
                    refine JL.eqs rfl rfl (eqBool 4 Try.underlying4 _ _) rfl ?_
                    refine JL.pure rfl rfl ?_
                    refine JL.pure rfl rfl ?_
                    refine JL.nil ?_
                    refine Ex.to ⟨rfl, rfl, rfl, rfl, rfl, rfl, rfl, rfl, rfl, rfl, rfl, rfl, ?_, trivial⟩ H
                    show some (Value.bool _) = some (Value.bool _)
                    simp_all
                · intro h182
                  (try simp only [Bool.not_eq_true', Bool.not_eq_false', decide_eq_true_eq, decide_eq_false_iff_not] at h182)
                  refine JL.pass rfl rfl rfl rfl ?_
                  refine JL.pass rfl rfl rfl rfl ?_
                  refine JL.pass rfl rfl rfl rfl ?_
                  refine JL.pass rfl rfl rfl rfl ?_
                  refine JL.pass rfl rfl rfl rfl ?_
                  refine JL.passU rfl rfl rfl ?_
                  refine JL.passU rfl rfl rfl ?_
                  refine JL.pass rfl rfl rfl rfl ?_
                  refine JL.pass rfl rfl rfl rfl ?_
                  refine JL.pure rfl rfl ?_
                  refine JL.pure rfl rfl ?_
                  refine JL.nil ?_
                  refine Ex.to ⟨rfl, rfl, rfl, rfl, rfl, rfl, rfl, rfl, rfl, rfl, rfl, rfl, ?_, trivial⟩ H
                  show some (Value.bool _) = some (Value.bool _)
                  simp_all
              · intro h177
                (try simp only [Bool.not_eq_true', Bool.not_eq_false', decide_eq_true_eq, decide_eq_false_iff_not] at h177)
                refine JL.pass rfl rfl rfl rfl ?_
                refine JL.want rfl rfl ?_
                refine JL.pure rfl rfl ?_
                refine JL.want rfl rfl ?_
                refine JL.eqs rfl rfl (eqBool 4 Try.underlying4 _ _) rfl ?_
                refine JL.pure rfl rfl ?_
                refine JL.pure rfl rfl ?_
                refine JL.cases 182 rfl ?_ ?_
                · intro h182
                  (try simp only [Bool.not_eq_true', Bool.not_eq_false', decide_eq_true_eq, decide_eq_false_iff_not] at h182)
                  refine JL.want rfl rfl ?_
                  refine JL.pure rfl rfl ?_
                  refine JL.want rfl rfl ?_
                  refine JL.loadB 7 H rfl sh62 rfl rfl rfl ?_
                  refine JL.want rfl rfl ?_
                  refine JL.callP H fb48 rfl rfl (v := .bool (hasB a c && !hasB b c)) (by have := has_c _ W.1 c _ (runSl H (j := 3) rfl (by omega)); rw [hL.wh] at this; exact this) ?_
                  intro w21 H _
                  refine JL.want rfl rfl ?_
                  refine JL.pure rfl rfl ?_
                  refine JL.want rfl rfl ?_
                  refine JL.pure rfl rfl ?_
                  refine JL.cases 187 rfl ?_ ?_
                  · intro h187
                    (try simp only [Bool.not_eq_true', Bool.not_eq_false', decide_eq_true_eq, decide_eq_false_iff_not] at h187)
                    refine JL.want rfl rfl ?_
                    refine JL.pure rfl rfl ?_
                    refine JL.want rfl rfl ?_
                    refine JL.pure rfl rfl ?_
                    refine JL.want rfl rfl ?_
                    refine JL.pure rfl rfl ?_
                    refine JL.want rfl rfl ?_
                    refine JL.eqs rfl rfl (eqBool 4 Try.underlying4 _ _) rfl ?_
                    refine JL.pure rfl rfl ?_
                    refine JL.pure rfl rfl ?_
                    refine JL.nil ?_
                    refine Ex.to ⟨rfl, rfl, rfl, rfl, rfl, rfl, rfl, rfl, rfl, rfl, rfl, rfl, ?_, trivial⟩ H
                    show some (Value.bool _) = some (Value.bool _)
                    simp_all
                  · intro h187
                    (try simp only [Bool.not_eq_true', Bool.not_eq_false', decide_eq_true_eq, decide_eq_false_iff_not] at h187)
                    refine JL.pass rfl rfl rfl rfl ?_
                    refine JL.pass rfl rfl rfl rfl ?_
                    refine JL.want rfl rfl ?_
                    refine JL.pure rfl rfl ?_
                    refine JL.want rfl rfl ?_
                    refine JL.eqs rfl rfl (eqBool 4 Try.underlying4 _ _) rfl ?_
                    refine JL.pure rfl rfl ?_
                    refine JL.pure rfl rfl ?_
                    refine JL.nil ?_
                    refine Ex.to ⟨rfl, rfl, rfl, rfl, rfl, rfl, rfl, rfl, rfl, rfl, rfl, rfl, ?_, trivial⟩ H
                    show some (Value.bool _) = some (Value.bool _)
                    simp_all
                · intro h182
                  (try simp only [Bool.not_eq_true', Bool.not_eq_false', decide_eq_true_eq, decide_eq_false_iff_not] at h182)
                  refine JL.pass rfl rfl rfl rfl ?_
                  refine JL.pass rfl rfl rfl rfl ?_
                  refine JL.pass rfl rfl rfl rfl ?_
                  refine JL.pass rfl rfl rfl rfl ?_
                  refine JL.pass rfl rfl rfl rfl ?_
                  refine JL.passU rfl rfl rfl ?_
                  refine JL.passU rfl rfl rfl ?_
                  refine JL.pass rfl rfl rfl rfl ?_
                  refine JL.pass rfl rfl rfl rfl ?_
                  refine JL.pure rfl rfl ?_
                  refine JL.pure rfl rfl ?_
                  refine JL.nil ?_
                  refine Ex.to ⟨rfl, rfl, rfl, rfl, rfl, rfl, rfl, rfl, rfl, rfl, rfl, rfl, ?_, trivial⟩ H
                  show some (Value.bool _) = some (Value.bool _)
                  simp_all
            · intro h172
              (try simp only [Bool.not_eq_true', Bool.not_eq_false', decide_eq_true_eq, decide_eq_false_iff_not] at h172)
              refine JL.pass rfl rfl rfl rfl ?_
              refine JL.pass rfl rfl rfl rfl ?_
              refine JL.pass rfl rfl rfl rfl ?_
              refine JL.pass rfl rfl rfl rfl ?_
              refine JL.pass rfl rfl rfl rfl ?_
              refine JL.passU rfl rfl rfl ?_
              refine JL.pass rfl rfl rfl rfl ?_
              refine JL.pass rfl rfl rfl rfl ?_
              refine JL.pure rfl rfl ?_
              refine JL.pure rfl rfl ?_
              refine JL.pass rfl rfl rfl rfl ?_
              refine JL.pass rfl rfl rfl rfl ?_
              refine JL.pass rfl rfl rfl rfl ?_
              refine JL.pass rfl rfl rfl rfl ?_
              refine JL.pass rfl rfl rfl rfl ?_
              refine JL.passU rfl rfl rfl ?_
              refine JL.passU rfl rfl rfl ?_
              refine JL.pass rfl rfl rfl rfl ?_
              refine JL.pass rfl rfl rfl rfl ?_
              refine JL.pure rfl rfl ?_
              refine JL.pure rfl rfl ?_
              refine JL.nil ?_
              refine Ex.to ⟨rfl, rfl, rfl, rfl, rfl, rfl, rfl, rfl, rfl, rfl, rfl, rfl, ?_, trivial⟩ H
              show some (Value.bool _) = some (Value.bool _)
              simp_all
        · intro wc H
          ((repeat refine Ex.normal_block ?_); refine Ex.next ?_)
          ((repeat refine JC.seq ?_); refine JC.region ?_)
          refine JL.pure rfl rfl ?_
          refine JL.callP H fb94 rfl rfl (count_c _ E.1 _ (runSl H (j := 5) rfl (by omega)) tE (by omega)) ?_
          intro w22 H _
          refine JL.pure rfl rfl ?_
          refine JL.callP H fb94 rfl rfl (count_c _ B.1 _ (runSl H (j := 4) rfl (by omega)) tB (by omega)) ?_
          intro w23 H _
          refine JL.arith rfl (by unfold In64; omega) rfl ?_
          refine JL.pure rfl rfl ?_
          refine JL.callP H fb94 rfl rfl (count_c _ a _ (ha.grow H.below) ta (by omega)) ?_
          intro w24 H _
          refine JL.pure rfl rfl ?_
          refine JL.callP H fb94 rfl rfl (count_c _ b _ (hb.grow H.below) tb (by omega)) ?_
          intro w25 H _
          refine JL.arith rfl (by unfold In64; omega) rfl ?_
          refine JL.pure rfl rfl ?_
          refine JL.re 203 rfl (v' := .bool true) (by have := hL.n1; simp; omega) ?_
          refine JL.pure rfl rfl ?_
          refine JL.want rfl rfl ?_
          refine JL.pure rfl rfl ?_
          refine JL.want rfl rfl ?_
          refine JL.callP H fb94 rfl rfl (count_c _ W.1 _ (runSl H (j := 3) rfl (by omega)) tW (by omega)) ?_
          intro w26 H _
          refine JL.want rfl rfl ?_
          refine JL.pure rfl rfl ?_
          refine JL.want rfl rfl ?_
          refine JL.callP H fb94 rfl rfl (count_c _ a _ (ha.grow H.below) ta (by omega)) ?_
          intro w27 H _
          refine JL.want rfl rfl ?_
          refine JL.pure rfl rfl ?_
          refine JL.want rfl rfl ?_
          refine JL.callP H fb94 rfl rfl (count_c _ B.1 _ (runSl H (j := 4) rfl (by omega)) tB (by omega)) ?_
          intro w28 H _
          refine JL.want rfl rfl ?_
          refine JL.arith rfl (by unfold In64; omega) rfl ?_
          refine JL.want rfl rfl ?_
          refine JL.pure rfl rfl ?_
          refine JL.re 212 rfl (v' := .bool true) (by have := hL.n2; simp; omega) ?_
          refine JL.pure rfl rfl ?_
          refine JL.pure rfl rfl ?_
          refine JL.nil ?_
          ((repeat refine Ex.normal_block ?_); refine Ex.next ?_)
          ((repeat refine JC.seq ?_); refine JC.region ?_)
          refine JL.loadB 8 H rfl sh52 rfl rfl rfl ?_
          refine JL.pure rfl rfl ?_
          refine JL.callP H fb100 rfl rfl (v := .int .i64 0) (by have := checkRegion_c g _ _ E.1 _ (hl.grow H.below) (runSl H (j := 5) rfl (by omega)); rw [checked_one hL.ok hL.re] at this; exact this) ?_
          intro w29 H _
          refine JL.pure rfl rfl ?_
          refine JL.re 217 rfl (v' := .bool true) (rfl) ?_
          refine JL.pure rfl rfl ?_
          refine JL.want rfl rfl ?_
          refine JL.loadB 8 H rfl sh52 rfl rfl rfl ?_
          refine JL.want rfl rfl ?_
          refine JL.pure rfl rfl ?_
          refine JL.want rfl rfl ?_
          refine JL.callP H fb100 rfl rfl (v := .int .i64 0) (by have := checkRegion_c g _ _ B.1 _ (hl.grow H.below) (runSl H (j := 4) rfl (by omega)); rw [checked_one hL.ok hL.rb] at this; exact this) ?_
          intro w30 H _
          refine JL.want rfl rfl ?_
          refine JL.pure rfl rfl ?_
          refine JL.re 222 rfl (v' := .bool true) (rfl) ?_
          refine JL.pure rfl rfl ?_
          refine JL.pure rfl rfl ?_
          refine JL.want rfl rfl ?_
          refine JL.loadB 8 H rfl sh52 rfl rfl rfl ?_
          refine JL.want rfl rfl ?_
          refine JL.pure rfl rfl ?_
          refine JL.want rfl rfl ?_
          refine JL.callP H fb100 rfl rfl (v := .int .i64 0) (by have := checkRegion_c g _ _ W.1 _ (hl.grow H.below) (runSl H (j := 3) rfl (by omega)); rw [checked_one hL.ok hL.rw] at this; exact this) ?_
          intro w31 H _
          refine JL.want rfl rfl ?_
          refine JL.pure rfl rfl ?_
          refine JL.re 228 rfl (v' := .bool true) (rfl) ?_
          refine JL.pure rfl rfl ?_
          refine JL.pure rfl rfl ?_
          refine JL.nil ?_
          ((repeat refine Ex.normal_block ?_); refine Ex.next ?_)
          ((repeat refine JC.seq ?_); refine JC.region ?_)
          refine JL.pure rfl rfl ?_
          refine JL.pure rfl rfl ?_
          refine JL.want rfl rfl ?_
          refine JL.pure rfl rfl ?_
          refine JL.pure rfl rfl ?_
          refine JL.pure rfl rfl ?_
          refine JL.want rfl rfl ?_
          refine JL.pure rfl rfl ?_
          refine JL.pure rfl rfl ?_
          refine JL.pure rfl rfl ?_
          refine JL.want rfl rfl ?_
          refine JL.pure rfl rfl ?_
          refine JL.pure rfl rfl ?_
          refine JL.pure rfl rfl ?_
          refine JL.want rfl rfl ?_
          refine JL.pure rfl rfl ?_
          refine JL.want rfl rfl ?_
          refine JL.loadB 7 H rfl sh62 rfl rfl rfl ?_
          refine JL.want rfl rfl ?_
          refine JL.callP H fb48 rfl rfl (v := .bool (decide (inG g c) && !hasB g.land c)) (by have := has_c _ S.1 c _ (runSl H (j := 2) rfl (by omega)); rw [hL.sh] at this; exact this) ?_
          intro w32 H _
          refine JL.want rfl rfl ?_
          refine JL.pure rfl rfl ?_
          refine JL.want rfl rfl ?_
          refine JL.pure rfl rfl ?_
          refine JL.cases 245 rfl ?_ ?_
          · intro h245
            (try simp only [Bool.not_eq_true', Bool.not_eq_false', decide_eq_true_eq, decide_eq_false_iff_not] at h245)
            refine JL.want rfl rfl ?_
            refine JL.fieldAddr rfl Try.underlying52 rfl sh50 rfl ?_
            refine JL.want rfl rfl ?_
            refine JL.loadB 8 H rfl sh50 rfl rfl rfl ?_
            refine JL.want rfl rfl ?_
            refine JL.loadB 7 H rfl sh62 rfl rfl rfl ?_
            refine JL.want rfl rfl ?_
            refine JL.callP H fb48 rfl rfl (has_c _ g.land c _ (hl.grow H.below)) ?_
            intro w33 H _
            refine JL.want rfl rfl ?_
            refine JL.pure rfl rfl ?_
            refine JL.want rfl rfl ?_
            refine JL.pure rfl rfl ?_
            refine JL.want rfl rfl ?_
            refine JL.eqs rfl rfl (eqBool 4 Try.underlying4 _ _) rfl ?_
            refine JL.pure rfl rfl ?_
            refine JL.pure rfl rfl ?_
            refine JL.nil ?_
            ((repeat refine Ex.normal_block ?_); refine Ex.next ?_)
            ((repeat refine JC.seq ?_); refine JC.ret ?_)
            (repeat (first | refine Ex.ret_then ?_ | refine Ex.ret_block ?_))
            refine Ex.ret1 rfl (.tmp rfl) ⟨?_, H.below⟩
            first
              | rfl
              | simp_all
          · intro h245
            (try simp only [Bool.not_eq_true', Bool.not_eq_false', decide_eq_true_eq, decide_eq_false_iff_not] at h245)
            refine JL.pass rfl rfl rfl rfl ?_
            refine JL.pass rfl rfl rfl rfl ?_
            refine JL.pass rfl rfl rfl rfl ?_
            refine JL.pass rfl rfl rfl rfl ?_
            refine JL.pass rfl rfl rfl rfl ?_
            refine JL.want rfl rfl ?_
            refine JL.pure rfl rfl ?_
            refine JL.want rfl rfl ?_
            refine JL.eqs rfl rfl (eqBool 4 Try.underlying4 _ _) rfl ?_
            refine JL.pure rfl rfl ?_
            refine JL.pure rfl rfl ?_
            refine JL.nil ?_
            ((repeat refine Ex.normal_block ?_); refine Ex.next ?_)
            ((repeat refine JC.seq ?_); refine JC.ret ?_)
            (repeat (first | refine Ex.ret_then ?_ | refine Ex.ret_block ?_))
            refine Ex.ret1 rfl (.tmp rfl) ⟨?_, H.below⟩
            first
              | rfl
              | simp_all
end Go.J

namespace Go.J
set_option linter.unusedSimpArgs false
set_option linter.unusedVariables false
/-! plain: what filling from a cell does -/
def sidesL (c : Cell) : List Cell := [⟨c.X - 1, c.Y⟩, ⟨c.X + 1, c.Y⟩, ⟨c.X, c.Y - 1⟩, ⟨c.X, c.Y + 1⟩]
theorem mdel_len {K V : Type} [DecidableEq K] {k : K} {m : List (K × V)} (h : k ∈ m.map Prod.fst) : (mdel m k).length + 1 = m.length := by
  induction m with
  | nil => simp at h
  | cons p m ih =>
    simp only [mdel]
    by_cases hp : p.1 = k
    · rw [if_pos hp]; rfl
    · rw [if_neg hp]
      simp only [List.map_cons, List.mem_cons] at h
      have := ih (h.resolve_left fun e => hp e.symm)
      simp only [List.length_cons]
      omega
theorem setR_mem {m : List (Cell × Bool)} {c : Cell} (h : setR m c = true) : c ∈ m.map Prod.fst := by
  rcases Classical.em (c ∈ m.map Prod.fst) with h' | h'
  · exact h'
  · unfold setR at h
    rw [mget_none.2 h'] at h
    cases h
theorem setR_mdel {m : List (Cell × Bool)} (hn : (m.map Prod.fst).Nodup) (k c : Cell) : setR (mdel m k) c = true ↔ c ≠ k ∧ setR m c = true := by
  unfold setR
  rw [mget_mdel k c hn]
  by_cases h : k = c
  · subst h; simp
  · rw [if_neg h]
    exact ⟨fun h' => ⟨fun e => h e.symm, h'⟩, fun h' => h'.2⟩
structure FillW (g : Grid) (m : List (Cell × Bool)) (T : Tab) (m' : List (Cell × Bool)) (T' : Tab) : Prop where
  sub : ∀ x, setR m' x = true → setR m x = true
  closed : ∀ x, setR m x = true → setR m' x ≠ true → ∀ d ∈ sidesL x, setR m' d ≠ true
  len : m'.length ≤ m.length
  cov : ∀ (Y : Nat) x, tabCov T' Y x ↔ tabCov T Y x ∨ (setR m ⟨x, Y⟩ = true ∧ setR m' ⟨x, Y⟩ ≠ true)
  good : ∀ k, Tab.good g.W k T → Tab.good g.W (k + (m.length - m'.length)) T'
  low : Tab.low g.H T → Tab.low g.H T'
theorem FillW.refl (g : Grid) (m : List (Cell × Bool)) (T : Tab) : FillW g m T m T := ⟨fun _ h => h, fun x h h' => absurd h h', Nat.le_refl _, fun Y x => ⟨.inl, fun h => h.elim id fun h => absurd h.1 h.2⟩, fun k h => h.mono (by omega), id⟩
theorem FillW.trans {g : Grid} {m m' m'' : List (Cell × Bool)} {T T' T'' : Tab} (h : FillW g m T m' T') (h' : FillW g m' T' m'' T'') : FillW g m T m'' T'' where
  sub := fun x hx => h.sub x (h'.sub x hx)
  closed := fun x hx hx' d hd hd' => by
    rcases Classical.em (setR m' x = true) with h1 | h1
    · exact h'.closed x h1 hx' d hd hd'
    · exact h.closed x hx h1 d hd (h'.sub d hd')
  len := Nat.le_trans h'.len h.len
  cov := fun Y x => by
    rw [h'.cov, h.cov, or_assoc]
    refine or_congr_right ?_
    constructor
    · rintro (⟨h1, h2⟩ | ⟨h1, h2⟩)
      · exact ⟨h1, fun e => h2 (h'.sub _ e)⟩
      · exact ⟨h.sub _ h1, h2⟩
    · rintro ⟨h1, h2⟩
      rcases Classical.em (setR m' ⟨x, Y⟩ = true) with h3 | h3
      · exact .inr ⟨h3, h2⟩
      · exact .inl ⟨h1, h3⟩
  good := fun k hk => (h'.good _ (h.good k hk)).mono (by have := h.len; have := h'.len; omega)
  low := fun hl => h'.low (h.low hl)
/-- taking a cell out, and then its sides -/
theorem FillW.cell {g : Grid} (hH : g.H ≤ 256) {m m' : List (Cell × Bool)} {T T' : Tab} {c : Cell} (hn : (m.map Prod.fst).Nodup) (hT : T.length = 256) (hc : inG g c) (hm : setR m c = true)
    (h : FillW g (mdel m c) (T.add g.W g.H c.Y c.X (c.X + 1)) m' T') (hs : ∀ d ∈ sidesL c, setR m' d ≠ true) : FillW g m T m' T' ∧ setR m' c ≠ true := by
  have hl := mdel_len (setR_mem hm)
  have hc' := hc
  unfold inG at hc'
  have hout : setR m' c ≠ true := fun e => ((setR_mdel hn c c).1 (h.sub c e)).1 rfl
  refine ⟨⟨fun x hx => ((setR_mdel hn c x).1 (h.sub x hx)).2, fun x hx hx' d hd => ?_, by have := h.len; omega, fun Y x => ?_, fun k hk => (h.good _ (hk.add g.H c.Y c.X (c.X + 1))).mono (by have := h.len; omega), fun hlow => h.low (hlow.add _ _ _ _)⟩, hout⟩
  · by_cases e : x = c
    · subst e; exact hs d hd
    · exact h.closed x ((setR_mdel hn c x).2 ⟨e, hx⟩) hx' d hd
  · rw [h.cov, add_cov hT hH, or_assoc]
    refine or_congr_right ?_
    rw [setR_mdel hn]
    constructor
    · rintro (⟨_, h2, h3⟩ | ⟨⟨h1, h2⟩, h3⟩)
      · have e : (⟨x, (Y : Int)⟩ : Cell) = c := by cases c; simp only [Cell.mk.injEq] at *; omega
        rw [e]; exact ⟨hm, hout⟩
      · exact ⟨h2, h3⟩
    · rintro ⟨h1, h2⟩
      by_cases e : (⟨x, (Y : Int)⟩ : Cell) = c
      · left
        subst e
        simp only at hc'
        exact ⟨⟨by simp only; omega, by simp only; omega⟩, rfl, by simp only; omega, by simp only; omega⟩
      · exact .inr ⟨⟨e, h1⟩, h2⟩
end Go.J

namespace Go.J
set_option linter.unusedSimpArgs false
set_option linter.unusedVariables false
open Go.RowKit
section
variable {P : Program} {N : Sz} {ops : Array Oper} {Q : Exit → Act → World → Prop} {rest : List Oper} {fr : Fr} {w w0 : World} {L : List HP}
  {d : Option Tmp} {ty : TypeId} {pos : String} {af : Array Edge}
/-- an element of an array that is a value -/
theorem JL.index {x ix : Operand} {t e : TypeId} {len sz : Nat} {cs : List Value} {m : Int} (j : Nat) (hx : fr.ev x = some (.agg ⟨cs⟩)) (hi : fr.ev ix = some (.int .i64 m)) (hu : P.underlying t = some (.array len e)) (hs : tySh P e = some (true, sz)) (hm : m = (j : Int)) (hj : j < len)
    (hd : Fr.fits N d = true) (k : JL P N ops Q rest (fr.put d (.agg ⟨(cs.drop (j * sz)).take sz⟩)) w) : JL P N ops Q (⟨d, .index t x ix, ty, pos, af, none⟩ :: rest) fr w := by
  subst hm
  refine JL.val rfl hd (fun a H => ?_) k
  have h1 : (j : Int) < len := by omega
  simp only [execOp, H.eval hx, H.eval hi]
  simp [Instr.index, asIntOf, run_underlying hu, part, (tySh_agg hs w).1, (tySh_agg hs w).2, h1]
  exact fun h => absurd h (by omega)
end
theorem flat_elem {α : Type} {enc : α → List Value} {sz : Nat} (he : ∀ x, (enc x).length = sz) {l : List α} {j : Nat} {x : α} (hx : l[j]? = some x) : ((l.flatMap enc).drop (j * sz)).take sz = enc x := by
  rw [flat_drop he]
  obtain ⟨h1, h2⟩ := List.getElem?_eq_some_iff.1 hx
  rw [List.drop_eq_getElem_cons h1, h2, List.flatMap_cons]
  have := he x
  rw [List.take_append_of_le_length (by omega), List.take_of_length_le (by omega)]
end Go.J

namespace Go.J
open Go.RowKit Go.Proofs
set_option maxRecDepth 8000
set_option linter.unusedSimpArgs false
set_option linter.unusedVariables false
theorem za264 : tyZero Try.prog 264 = some (List.replicate 8 (.int .i64 0)) := by kernel_rfl
def tameC (c : Cell) : Prop := (-1000000000000 ≤ c.X ∧ c.X ≤ 1000000000000) ∧ -1000000000000 ≤ c.Y ∧ c.Y ≤ 1000000000000
theorem sides_c (c : Cell) (w : World) (hc : tameC c) : Pur Try.prog 188 #[c.ev] w (.agg ⟨(sidesL c).flatMap Cell.cs⟩) := by
  unfold tameC at hc
  refine pur_J (args := [c.ev]) Try.func188 rfl Try.ntmps188 rfl ?_
  have H := Own.start w
  ((repeat refine JC.seq ?_); refine JC.region ?_)
  refine JL.box H rfl rfl rfl ?_
  intro b1 w1 H
  refine JL.alloc H z264 rfl ?_
  intro b2 w2 H
  refine JL.nil ?_
  ((repeat refine Ex.normal_block ?_); refine Ex.next ?_)
  ((repeat refine JC.seq ?_); refine JC.region ?_)
  refine JL.fieldAddr rfl Try.underlying62 rfl sh3 rfl ?_
  refine JL.loadB 1 H rfl sh3 rfl rfl rfl ?_
  refine JL.arith rfl (by unfold In64; omega) rfl ?_
  refine JL.fieldAddr rfl Try.underlying62 rfl sh3 rfl ?_
  refine JL.loadB 1 H rfl sh3 rfl rfl rfl ?_
  refine JL.build s62 rfl rfl ?_
  refine JL.fieldAddr rfl Try.underlying62 rfl sh3 rfl ?_
  refine JL.loadB 1 H rfl sh3 rfl rfl rfl ?_
  refine JL.arith rfl (by unfold In64; omega) rfl ?_
  refine JL.fieldAddr rfl Try.underlying62 rfl sh3 rfl ?_
  refine JL.loadB 1 H rfl sh3 rfl rfl rfl ?_
  refine JL.build s62 rfl rfl ?_
  refine JL.fieldAddr rfl Try.underlying62 rfl sh3 rfl ?_
  refine JL.loadB 1 H rfl sh3 rfl rfl rfl ?_
  refine JL.fieldAddr rfl Try.underlying62 rfl sh3 rfl ?_
  refine JL.loadB 1 H rfl sh3 rfl rfl rfl ?_
  refine JL.arith rfl (by unfold In64; omega) rfl ?_
  refine JL.build s62 rfl rfl ?_
  refine JL.fieldAddr rfl Try.underlying62 rfl sh3 rfl ?_
  refine JL.loadB 1 H rfl sh3 rfl rfl rfl ?_
  refine JL.fieldAddr rfl Try.underlying62 rfl sh3 rfl ?_
  refine JL.loadB 1 H rfl sh3 rfl rfl rfl ?_
  refine JL.arith rfl (by unfold In64; omega) rfl ?_
  refine JL.build s62 rfl rfl ?_
  refine JL.buildA Try.underlying264 sh62 za264 rfl rfl ?_
  refine JL.storeB 0 H rfl rfl sh264 rfl rfl rfl rfl rfl ?_
  intro w3 H
  refine JL.nil ?_
  ((repeat refine Ex.normal_block ?_); refine Ex.next ?_)
  ((repeat refine JC.seq ?_); refine JC.ret ?_)
  (repeat (first | refine Ex.ret_then ?_ | refine Ex.ret_block ?_))
  refine Ex.ret1 rfl (.cell rfl sh264 (LdAt.of_block (H.get (i := 0) rfl).2 rfl)) ⟨rfl, H.below⟩
def mtb (g : Grid) (lv : Value) (β b q7 q9 q2 q10 : Nat) (m : List (Cell × Bool)) (T : Tab) : List HP :=
  [setM β m, tbl b T, blk q7 (.cells ⟨[.map (some β)]⟩ 201 (0, 0)), blk q9 (.cells ⟨[.pointer (some ⟨b, 0, none⟩)]⟩ 192 (0, 0)), blk q2 (.cells ⟨[.int .i64 g.W, .int .i64 g.H, .int .i64 g.S, lv]⟩ 52 (0, 0)),
   blk q10 (.cells ⟨[.func (.func 187) #[] ⟨[.pointer (some ⟨q7, 0, none⟩), .pointer (some ⟨q9, 0, none⟩), .pointer (some ⟨q2, 0, none⟩), .pointer (some ⟨q10, 0, none⟩)]⟩]⟩ 263 (0, 0))]
theorem Own.mapND {w0 w : World} {L : List HP} (H : Own w0 w L) {i β : Nat} {m : List (Cell × Bool)} (hi : L[i]? = some (setM β m)) : (m.map Prod.fst).Nodup := by
  obtain ⟨es, clock, hM, _⟩ := H.openM hi
  exact hM.nodup
theorem mtb_out {g : Grid} {lv : Value} {β b q7 q9 q2 q10 : Nat} {m : List (Cell × Bool)} {T : Tab} {w0 w : World} {Y X : List HP} (H : Own w0 w (Y ++ (mtb g lv β b q7 q9 q2 q10 m T ++ X))) : Own w0 w (mtb g lv β b q7 q9 q2 q10 m T ++ (Y ++ X)) := H.perm (List.perm_append_comm_assoc _ _ _)
theorem mtb_in {g : Grid} {lv : Value} {β b q7 q9 q2 q10 : Nat} {m : List (Cell × Bool)} {T : Tab} {w0 w : World} {Y X : List HP} (H : Own w0 w (mtb g lv β b q7 q9 q2 q10 m T ++ (Y ++ X))) : Own w0 w (Y ++ (mtb g lv β b q7 q9 q2 q10 m T ++ X)) := H.perm (List.perm_append_comm_assoc _ _ _)
theorem fill_c (g : Grid) (la : Option Addr) (ln lc β b q7 q9 q2 q10 : Nat) (hg : g.ok = true) : ∀ (n : Nat) (w0 w : World) (X : List HP) (m : List (Cell × Bool)) (T : Tab) (c : Cell) (k : Nat),
    Own w0 w (mtb g (.slice la ln lc) β b q7 q9 q2 q10 m T ++ X) → m.length < n → (∀ x, setR m x = true → inG g x) → Tab.good g.W k T → k + m.length ≤ 1000000 →
    Calls Try.prog 187 #[c.ev, .pointer (some ⟨q7, 0, none⟩), .pointer (some ⟨q9, 0, none⟩), .pointer (some ⟨q2, 0, none⟩), .pointer (some ⟨q10, 0, none⟩)] w
      (fun e w' => e = .returned (.tuple #[]) ∧ ∃ m' T', Own w0 w' (mtb g (.slice la ln lc) β b q7 q9 q2 q10 m' T' ++ X) ∧ FillW g m T m' T' ∧ setR m' c ≠ true) := by
  obtain ⟨hgW, hgH, hgS, _⟩ := Grid.ok_b hg
  intro n
  induction n with
  | zero => intro w0 w X m T c k _ hn; exact absurd hn (by omega)
  | succ n ih =>
    intro w0 w X m T c k H hn hin hT hk
    unfold mtb at H
    simp only [List.cons_append, List.nil_append] at H
    refine calls_J (args := [c.ev, .pointer (some ⟨q7, 0, none⟩), .pointer (some ⟨q9, 0, none⟩), .pointer (some ⟨q2, 0, none⟩), .pointer (some ⟨q10, 0, none⟩)]) Try.func187 rfl Try.ntmps187 rfl ?_
    ((repeat refine JC.seq ?_); refine JC.region ?_)
    refine JL.box H rfl rfl rfl ?_
    intro b5 w1 H
    refine JL.nil ?_
    ((repeat refine Ex.normal_block ?_); refine Ex.next ?_)
    ((repeat refine JC.seq ?_); refine JC.region ?_)
    refine JL.loadB 3 H rfl sh201 rfl rfl rfl ?_
    refine JL.loadB 0 H rfl sh62 rfl rfl rfl ?_
    refine JL.lookupM 1 H c false rfl rfl rfl Try.underlying201 keyCell zero4 rfl ?_
    show JL _ _ _ _ _ (Fr.put _ (Value.bool (setR m c)) _) _
    refine JL.pure rfl rfl ?_
    refine JL.nil ?_
    ((repeat refine Ex.normal_block ?_); refine Ex.next ?_)
    ((repeat refine JC.seq ?_); refine JC.cond rfl ?_ ?_)
    · intro h11
      (try simp only [Bool.not_eq_true', Bool.not_eq_false', decide_eq_true_eq, decide_eq_false_iff_not] at h11)
      have hm : setR m c = false := by simpa using h11
      ((repeat refine JC.seq ?_); refine JC.ret ?_)
      (repeat (first | refine Ex.ret_then ?_ | refine Ex.ret_block ?_))
      refine Ex.ret0 rfl ⟨rfl, m, T, H.drop 0, FillW.refl _ _ _, by rw [hm]; simp⟩
    · intro h11
      (try simp only [Bool.not_eq_true', Bool.not_eq_false', decide_eq_true_eq, decide_eq_false_iff_not] at h11)
      have hm : setR m c = true := by simpa using h11
      have hic := hin c hm
      have hnd := H.mapND (i := 1) rfl
      have hml := mdel_len (setR_mem hm)
      have hic' := hic
      unfold inG at hic' 
      ((repeat refine JC.seq ?_); refine JC.skip ?_)
      ((repeat refine Ex.normal_block ?_); refine Ex.next ?_)
      ((repeat refine JC.seq ?_); refine JC.region ?_)
      refine JL.loadB 3 H rfl sh201 rfl rfl rfl ?_
      refine JL.loadB 0 H rfl sh62 rfl rfl rfl ?_
      refine JL.delete 1 H c rfl rfl Try.underlying201 keyCell rfl rfl rfl ?_
      intro w1 H
      refine JL.nil ?_
      ((repeat refine Ex.normal_block ?_); refine Ex.next ?_)
      ((repeat refine JC.seq ?_); refine JC.region ?_)
      refine JL.loadB 4 H rfl sh192 rfl rfl rfl ?_
      refine JL.loadB 5 H rfl sh52 rfl rfl rfl ?_
      refine JL.fieldAddr rfl Try.underlying62 rfl sh3 rfl ?_
      refine JL.loadB 0 H rfl sh3 rfl rfl rfl ?_
      refine JL.fieldAddr rfl Try.underlying62 rfl sh3 rfl ?_
      refine JL.loadB 0 H rfl sh3 rfl rfl rfl ?_
      refine JL.fieldAddr rfl Try.underlying62 rfl sh3 rfl ?_
      refine JL.loadB 0 H rfl sh3 rfl rfl rfl ?_
      refine JL.arith rfl (by unfold In64; omega) rfl ?_
      refine JL.call fb134 rfl rfl (add_c (H.perm (List.perm_middle (l₁ := [_, _]))) _ _ _ _ _ _ _ hgH hgW.2 (fun l hl => by have := hT.le l hl; omega)) ?_
      rintro _ w2 ⟨rfl, H⟩
      refine ⟨_, rfl, ?_⟩
      refine JL.nil ?_
      ((repeat refine Ex.normal_block ?_); refine Ex.next ?_)
      ((repeat refine JC.seq ?_); refine JC.region ?_)
      refine JL.loadB 1 H rfl sh62 rfl rfl rfl ?_
      refine JL.callP H fb188 rfl rfl (sides_c c _ (by unfold tameC; omega)) ?_
      intro w3 H _
      refine JL.pure rfl rfl ?_
      refine JL.nil ?_
      ((repeat refine Ex.normal_block ?_); refine Ex.next ?_)
      ((repeat refine JC.seq ?_); refine JC.block ?_)
      ((repeat refine JC.seq ?_); refine JC.loop (ι := Nat × List (Cell × Bool) × Tab) (fun x => [(1, .pointer (some ⟨q7, 0, none⟩)), (2, .pointer (some ⟨q9, 0, none⟩)), (3, .pointer (some ⟨q2, 0, none⟩)), (4, .pointer (some ⟨q10, 0, none⟩)), (5, .pointer (some ⟨b5, 0, none⟩)), (25, .agg ⟨(sidesL c).flatMap Cell.cs⟩), (26, .int .i64 x.1)])
        (fun x wr => x.1 ≤ 4 ∧ (FillW g (mdel m c) (T.add g.W g.H c.Y c.X (c.X + 1)) x.2.1 x.2.2 ∧ ∀ (i : Nat) (d : Cell), (sidesL c)[i]? = some d → i < x.1 → setR x.2.1 d ≠ true) ∧ Own w0 wr (mtb g (.slice la ln lc) β b q7 q9 q2 q10 x.2.1 x.2.2 ++ ([blk b5 (.cells ⟨[.int .i64 c.X, .int .i64 c.Y]⟩ 62 (0, 0))] ++ X))) (fun x => 4 - x.1) (0, mdel m c, T.add g.W g.H c.Y c.X (c.X + 1)) ?_ ?_ ?_)
      · exact ⟨rfl, rfl, rfl, rfl, rfl, rfl, rfl, trivial⟩
      · exact ⟨Nat.zero_le _, ⟨FillW.refl _ _ _, fun i d _ h => by omega⟩, mtb_out (Y := [blk b5 (.cells ⟨[.int .i64 c.X, .int .i64 c.Y]⟩ 62 (0, 0))]) (X := X) (H.perm (List.perm_middle (l₁ := [_, _])).symm)⟩
      · rintro ⟨j, m2, T2⟩ wr ⟨hj, ⟨hw, hs⟩, H⟩
        simp only at hj hw hs H
        unfold mtb at H
        simp only [List.cons_append, List.nil_append] at H
        show JC _ _ _ _ [(1, .pointer (some ⟨q7, 0, none⟩)), (2, .pointer (some ⟨q9, 0, none⟩)), (3, .pointer (some ⟨q2, 0, none⟩)), (4, .pointer (some ⟨q10, 0, none⟩)), (5, .pointer (some ⟨b5, 0, none⟩)), (25, .agg ⟨(sidesL c).flatMap Cell.cs⟩), (26, .int .i64 j)] _
        ((repeat refine JC.seq ?_); refine JC.region ?_)
        refine JL.pure rfl rfl ?_
        refine JL.nil ?_
        ((repeat refine Ex.normal_block ?_); refine Ex.next ?_)
        ((repeat refine JC.seq ?_); refine JC.cond rfl ?_ ?_)
        · intro h27
          (try simp only [Bool.not_eq_true', Bool.not_eq_false', decide_eq_true_eq, decide_eq_false_iff_not] at h27)
          have h27 : j < 4 := by omega
          obtain ⟨d, hd⟩ : ∃ d, (sidesL c)[j]? = some d := ⟨_, List.getElem?_eq_getElem (show j < (sidesL c).length from h27)⟩
          ((repeat refine JC.seq ?_); refine JC.skip ?_)
          ((repeat refine Ex.normal_block ?_); refine Ex.next ?_)
          ((repeat refine JC.seq ?_); refine JC.block ?_)
          ((repeat refine JC.seq ?_); refine JC.region ?_)
          refine JL.index j rfl rfl Try.underlying264 sh62 rfl h27 rfl ?_
          refine JL.re 28 rfl (v' := d.ev) (by rw [flat_elem (enc := Cell.cs) (sz := 2) (fun _ => rfl) hd]; rfl) ?_
          refine JL.alloc H z62 rfl ?_
          intro b7 w4 H
          refine JL.storeB 0 H rfl rfl sh62 rfl rfl rfl rfl rfl ?_
          intro w5 H
          refine JL.nil ?_
          ((repeat refine Ex.normal_block ?_); refine Ex.next ?_)
          ((repeat refine JC.seq ?_); refine JC.region ?_)
          refine JL.loadB 6 H rfl sh263 rfl rfl rfl ?_
          refine JL.loadB 0 H rfl sh62 rfl rfl rfl ?_
          refine JL.callv rfl fb187 rfl rfl (ih w0 _ ([_] ++ ([blk b5 (.cells ⟨[.int .i64 c.X, .int .i64 c.Y]⟩ 62 (0, 0))] ++ X)) m2 T2 d (k + 1 + ((mdel m c).length - m2.length)) (mtb_out (Y := [_]) (X := [blk b5 (.cells ⟨[.int .i64 c.X, .int .i64 c.Y]⟩ 62 (0, 0))] ++ X) H) (by have := hw.len; omega) (fun x hx => hin x ((setR_mdel hnd c x).1 (hw.sub x hx)).2) (hw.good _ (hT.add _ _ _ _)) (by have := hw.len; omega)) ?_
          rintro _ w6 ⟨rfl, m3, T3, H, hw2, hout⟩
          refine ⟨_, rfl, ?_⟩
          refine JL.nil ?_
          ((repeat refine Ex.normal_block ?_); refine Ex.next ?_)
          ((repeat refine JC.seq ?_); refine JC.region ?_)
          refine JL.arith rfl (by unfold In64; omega) rfl ?_
          refine JL.pure rfl rfl ?_
          refine JL.nil ?_
          (repeat refine Ex.normal_block ?_)
          refine Ex.again (j + 1, m3, T3) ⟨rfl, rfl, rfl, rfl, rfl, rfl, rfl, trivial⟩ ⟨by simp only; omega, ⟨hw.trans hw2, fun i e he hi => ?_⟩, (mtb_in (Y := [_]) H).drop 0⟩ (by simp only; omega)
          by_cases hij : i = j
          · subst hij
            rw [hd] at he
            cases he
            exact hout
          · exact fun h => hs i e he (by simp only at hi; omega) (hw2.sub e h)
        · intro h27
          (try simp only [Bool.not_eq_true', Bool.not_eq_false', decide_eq_true_eq, decide_eq_false_iff_not] at h27)
          have hj4 : j = 4 := by omega
          subst hj4
          ((repeat refine JC.seq ?_); refine JC.exit ?_)
          (repeat (first | refine Ex.exit_then ?_ | refine Ex.exit_miss (by decide) ?_))
          refine Ex.exit_hit ?_
          ((repeat refine Ex.normal_block ?_); refine Ex.end_ ?_)
          have hfin := FillW.cell hgH.2 hnd hT.len hic hm hw (fun d hd => by
            obtain ⟨i, hi, e⟩ := List.getElem_of_mem hd
            exact hs i d (by rw [← e]; exact List.getElem?_eq_getElem hi) hi)
          refine Ex.ret0 rfl ⟨rfl, m2, T2, H.drop 6, hfin.1, hfin.2⟩
end Go.J

namespace Go.J
set_option linter.unusedSimpArgs false
set_option linter.unusedVariables false
/-! plain: the parts of a region, one by one -/
def cellLt (a b : Cell) : Prop := a.Y < b.Y ∨ (a.Y = b.Y ∧ a.X < b.X)
theorem cellsAll_sorted {W H : Int} {rs : List Run} (h : Canon W H rs) : (cellsAll rs).Pairwise cellLt := by
  unfold cellsAll
  rw [List.pairwise_flatMap]
  refine ⟨fun r _ => ?_, h.ord.imp fun {a b} hab x hx y hy => ?_⟩
  · unfold cellsRun
    rw [List.pairwise_map]
    exact List.pairwise_lt_range.imp fun {a b} hab => .inr ⟨rfl, by simp only; omega⟩
  · rw [mem_cellsRun] at hx hy
    unfold cellLt
    omega
def headC (p : List Run) : Option Cell := p.head?.map fun r => ⟨r.From, r.Y⟩
theorem headC_least {W H : Int} {p : List Run} (h : Canon W H p) {a : Cell} (ha : headC p = some a) : hasB p a = true ∧ ∀ x, hasB p x = true → x = a ∨ cellLt a x := by
  cases p with
  | nil => cases ha
  | cons r p =>
    simp only [headC, List.head?_cons, Option.map_some, Option.some.injEq] at ha
    subst ha
    have hr := h.rng r List.mem_cons_self
    refine ⟨hasB_cons.2 (.inl ⟨rfl, Int.le_refl _, hr.2.2.1⟩), fun x hx => ?_⟩
    have hord := List.pairwise_cons.1 h.ord
    rcases hasB_cons.1 hx with ⟨h1, h2, h3⟩ | h1
    · by_cases e : x.X = r.From
      · left; cases x; simp only [Cell.mk.injEq] at *; omega
      · right; unfold cellLt; simp only; omega
    · obtain ⟨s, hs, k1, k2, k3⟩ := hasB_iff.1 h1
      have := hord.1 s hs
      right; unfold cellLt; simp only; omega
theorem sides_symm {a b : Cell} : a ∈ sidesL b ↔ b ∈ sidesL a := by
  unfold sidesL
  cases a; cases b
  simp only [List.mem_cons, Cell.mk.injEq, List.not_mem_nil, or_false]
  omega
structure PartsTo (g : Grid) (r : List Run) (pre : List Cell) (m : List (Cell × Bool)) (ps : List (List Run)) : Prop where
  sub : ∀ x, setR m x = true → hasB r x = true
  gone : ∀ x ∈ pre, setR m x ≠ true
  part : ∀ p ∈ ps, rightB g.W g.H p = true ∧ (∃ x ∈ pre, headC p = some x) ∧ ∀ x, hasB p x = true → hasB r x = true ∧ setR m x ≠ true ∧ ∀ d ∈ sidesL x, setR m d ≠ true
  all : ∀ x, hasB r x = true → setR m x = true ∨ ∃ p ∈ ps, hasB p x = true
  apart : ps.Pairwise fun p q => ∀ x, hasB p x = true → ¬ hasB q x = true ∧ ∀ d ∈ sidesL x, ¬ hasB q d = true
  ord : ps.Pairwise fun p q => ∀ a b, headC p = some a → headC q = some b → cellLt a b
  len : ps.length ≤ pre.length
theorem PartsTo.start {g : Grid} {r : List Run} {m : List (Cell × Bool)} (h : ∀ x, setR m x = true ↔ hasB r x = true) : PartsTo g r [] m [] :=
  ⟨fun x hx => (h x).1 hx, by simp, by simp, fun x hx => .inl ((h x).2 hx), List.Pairwise.nil, List.Pairwise.nil, Nat.le_refl _⟩
theorem PartsTo.skip {g : Grid} {r : List Run} {pre : List Cell} {m : List (Cell × Bool)} {ps : List (List Run)} {x : Cell} (h : PartsTo g r pre m ps) (hx : setR m x ≠ true) : PartsTo g r (pre ++ [x]) m ps :=
  ⟨h.sub, fun y hy => by
    rcases List.mem_append.1 hy with hy | hy
    · exact h.gone y hy
    · simp only [List.mem_singleton] at hy; subst hy; exact hx, fun p hp => by
    obtain ⟨h1, ⟨y, hy, h2⟩, h3⟩ := h.part p hp
    exact ⟨h1, ⟨y, List.mem_append_left _ hy, h2⟩, h3⟩, h.all, h.apart, h.ord, by have := h.len; rw [List.length_append]; omega⟩
theorem PartsTo.fill {g : Grid} (hg : g.ok = true) (hs : g.W * g.H ≤ 4096) {r : List Run} (hr : Canon g.W g.H r) {pre : List Cell} {m m' : List (Cell × Bool)} {T' : Tab} {ps : List (List Run)} {x : Cell} (h : PartsTo g r pre m ps) (hpx : pre ++ [x] <+: cellsAll r)
    (hx : setR m x = true) (hw : FillW g m tab0 m' T') (hout : setR m' x ≠ true) : regRes T' = (regR T', 0) ∧ PartsTo g r (pre ++ [x]) m' (ps ++ [regR T']) := by
  obtain ⟨hW, hH, _, _⟩ := Grid.ok_b hg
  have hgd := hw.good 0 (tab0_good g.W)
  have hlow := hw.low (tab0_low g.H)
  obtain ⟨f1, f2, f3⟩ := regRes_fits hgd hlow hW.1 hH.1 hs
  have hcan := canon_of_right f3
  have hin : ∀ c, setR m c = true → inG g c := fun c hc => canon_inG hr (h.sub c hc)
  have hhas : ∀ c, hasB (regR T') c = true ↔ setR m c = true ∧ setR m' c ≠ true := by
    intro c
    rw [regR_has hgd]
    constructor
    · rintro ⟨h1, h2, h3⟩
      rcases (hw.cov _ _).1 h3 with h4 | h4
      · exact absurd h4 (tabCov0 _ _)
      · rwa [show (⟨c.X, ((c.Y.toNat : Nat) : Int)⟩ : Cell) = c by cases c; simp only [Cell.mk.injEq, true_and]; simp only at h1; omega] at h4
    · intro h4
      have hc := hin c h4.1
      unfold inG at hc
      refine ⟨by omega, by omega, (hw.cov _ _).2 (.inr ?_)⟩
      rwa [show (⟨c.X, ((c.Y.toNat : Nat) : Int)⟩ : Cell) = c by cases c; simp only [Cell.mk.injEq, true_and]; simp only at hc; omega]
  have hxp : hasB (regR T') x = true := (hhas x).2 ⟨hx, hout⟩
  have hmemr : ∀ c, setR m c = true → c = x ∨ cellLt x c := by
    intro c hc
    have hcr : c ∈ cellsAll r := mem_cellsAll.2 (h.sub c hc)
    obtain ⟨suf, hsuf⟩ := hpx
    rw [← hsuf] at hcr
    have hsort := cellsAll_sorted hr
    rw [← hsuf] at hsort
    rcases List.mem_append.1 hcr with h1 | h1
    · rcases List.mem_append.1 h1 with h2 | h2
      · exact absurd hc (h.gone c h2)
      · simp only [List.mem_singleton] at h2; exact .inl h2
    · exact .inr ((List.pairwise_append.1 hsort).2.2 x (by simp) c h1)
  have hhead : headC (regR T') = some x := by
    cases hp : regR T' with
    | nil => rw [hp] at hxp; exact absurd hxp hasB_nil
    | cons q rest =>
      have hh : headC (regR T') = some ⟨q.From, q.Y⟩ := by rw [hp]; rfl
      obtain ⟨k1, k2⟩ := headC_least hcan hh
      have k3 := hmemr _ ((hhas _).1 k1).1
      have k4 := k2 x hxp
      have : (⟨q.From, q.Y⟩ : Cell) = x := by
        rcases k3 with k3 | k3
        · exact k3
        · rcases k4 with k4 | k4
          · exact k4.symm
          · exfalso; unfold cellLt at k3 k4; omega
      rw [← hp, hh, this]
  have hltpre : ∀ a ∈ pre, cellLt a x := by
    intro a ha
    obtain ⟨suf, hsuf⟩ := hpx
    have hsort := cellsAll_sorted hr
    rw [← hsuf] at hsort
    exact (List.pairwise_append.1 (List.pairwise_append.1 hsort).1).2.2 a ha x (by simp)
  refine ⟨f1, ⟨fun c hc => h.sub c (hw.sub c hc), ?_, ?_, ?_, ?_, ?_, by have := h.len; simp only [List.length_append, List.length_singleton]; omega⟩⟩
  · intro y hy e
    rcases List.mem_append.1 hy with hy | hy
    · exact h.gone y hy (hw.sub y e)
    · simp only [List.mem_singleton] at hy; subst hy; exact hout e
  · intro p hp
    rcases List.mem_append.1 hp with hp | hp
    · obtain ⟨h1, ⟨y, hy, h2⟩, h3⟩ := h.part p hp
      exact ⟨h1, ⟨y, List.mem_append_left _ hy, h2⟩, fun c hc => ⟨(h3 c hc).1, fun e => (h3 c hc).2.1 (hw.sub c e), fun d hd e => (h3 c hc).2.2 d hd (hw.sub d e)⟩⟩
    · simp only [List.mem_singleton] at hp
      subst hp
      exact ⟨f3, ⟨x, by simp, hhead⟩, fun c hc => ⟨h.sub c ((hhas c).1 hc).1, ((hhas c).1 hc).2, hw.closed c ((hhas c).1 hc).1 ((hhas c).1 hc).2⟩⟩
  · intro c hc
    rcases h.all c hc with h1 | ⟨p, hp, h1⟩
    · rcases Classical.em (setR m' c = true) with h2 | h2
      · exact .inl h2
      · exact .inr ⟨regR T', by simp, (hhas c).2 ⟨h1, h2⟩⟩
    · exact .inr ⟨p, List.mem_append_left _ hp, h1⟩
  · refine List.pairwise_append.2 ⟨h.apart, by simp, fun p hp q hq c hc => ?_⟩
    simp only [List.mem_singleton] at hq
    subst hq
    have h3 := (h.part p hp).2.2 c hc
    exact ⟨fun e => h3.2.1 ((hhas c).1 e).1, fun d hd e => h3.2.2 d hd ((hhas d).1 e).1⟩
  · refine List.pairwise_append.2 ⟨h.ord, by simp, fun p hp q hq a b ha hb => ?_⟩
    simp only [List.mem_singleton] at hq
    subst hq
    rw [hhead] at hb
    cases hb
    obtain ⟨_, ⟨y, hy, h2⟩, _⟩ := h.part p hp
    rw [h2] at ha
    cases ha
    exact hltpre _ hy
end Go.J

namespace Go.J
set_option linter.unusedSimpArgs false
set_option linter.unusedVariables false
open Go.RowKit
/-! ## several pieces as one; a piece to the front -/
def bag (M : List HP) : HP := starL M
theorem Own.pack {w0 w : World} {M L : List HP} (H : Own w0 w (M ++ L)) : Own w0 w (bag M :: L) := H.entail fun _ hs => starL_split hs
theorem Own.unpack {w0 w : World} {M L : List HP} (H : Own w0 w (bag M :: L)) : Own w0 w (M ++ L) := H.entail fun _ hs => starL_append hs
theorem Own.unpackAt {w0 w : World} {M L : List HP} {i : Nat} (H : Own w0 w L) (hi : L[i]? = some (bag M)) : Own w0 w (M ++ L.eraseIdx i) := (H.front i hi).unpack
/-- rows of rows -/
def rowsOf {α : Type} (R : Value → List α → HP) (vs : List Value) (ps : List (List α)) : List HP := List.zipWith R vs ps
theorem rowsOf_get {α : Type} {R : Value → List α → HP} {vs : List Value} {ps : List (List α)} {i : Nat} {v : Value} {p : List α} (hv : vs[i]? = some v) (hp : ps[i]? = some p) : (rowsOf R vs ps)[i]? = some (R v p) := by
  unfold rowsOf; rw [List.getElem?_zipWith, hv, hp]
theorem rowsOf_snoc {α : Type} {R : Value → List α → HP} {vs : List Value} {ps : List (List α)} {v : Value} {p : List α} (h : vs.length = ps.length) : rowsOf R (vs ++ [v]) (ps ++ [p]) = rowsOf R vs ps ++ [R v p] := by
  unfold rowsOf; rw [List.zipWith_append h]; rfl
end Go.J
