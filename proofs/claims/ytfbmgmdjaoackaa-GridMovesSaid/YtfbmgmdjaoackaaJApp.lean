/-
  Lemmas for the statements of this seat; no statement is proved here. No condition.
-/
import Derived.Test.YtfbmgmdjaoackaaJDraw
namespace Go.J
set_option linter.unusedSimpArgs false
set_option linter.unusedVariables false
open Go.RowKit

theorem Own.upd {w0 w : World} {L : List HP} {A B : HP} (H : Own w0 w L) {j : Nat} (hi : L[j]? = some A) (hAB : ∀ h, A h → B h) : Own w0 w (L.set j B) :=
  H.entail fun _ hs => starL_unfocus hi (star_mono hAB (fun _ h => h) (starL_focus hi hs))
theorem Own.exi {ι : Type} {w0 w : World} {L : List HP} {A : HP} {B : ι → HP} (H : Own w0 w L) {j : Nat} (hi : L[j]? = some A) (hAB : ∀ h, A h → ∃ x, B x h) : ∃ x, Own w0 w (L.set j (B x)) := by
  obtain ⟨hB, h, hl, hs⟩ := H
  obtain ⟨x, y, d, rfl, a, c⟩ := starL_focus hi hs
  obtain ⟨z, hz⟩ := hAB _ a
  exact ⟨z, hB, _, hl, starL_unfocus hi ⟨x, y, d, rfl, hz, c⟩⟩
/-- a fact of an entry -/
theorem Own.pick {p : Prop} {w0 w : World} {L : List HP} {A : HP} (H : Own w0 w L) {j : Nat} (hi : L[j]? = some A) (hA : ∀ h, A h → p) : p := by
  obtain ⟨hB, h, hl, hs⟩ := H
  obtain ⟨x, y, d, rfl, a, c⟩ := starL_focus hi hs
  exact hA _ a

/-- a slice of the call's own: nil, or from the begin of a block of its own on; xs: its cells -/
def row (e : TypeId) (sz : Nat) (v : Value) (n : Nat) (xs : List Value) : HP := fun h =>
  xs.length = n * sz ∧ ((v = .slice none 0 0 ∧ n = 0 ∧ ∀ k, h k = none) ∨
    ∃ g cap cur, v = .slice (some ⟨g, 0, none⟩) n cap ∧ n ≤ cap ∧ cap ≤ maxLen ∧ cur.size = cap * sz ∧ cur.toList.take (n * sz) = xs ∧ blk g (.cells cur e (0, 0)) h)

theorem row_nil (e : TypeId) (sz : Nat) (h : Hp) (he : emp h) : row e sz (.slice none 0 0) 0 [] h := ⟨by simp, .inl ⟨rfl, rfl, he⟩⟩
theorem row_of_blk {e : TypeId} {sz g n cap : Nat} {cur : Array Value} {xs : List Value} (hl : xs.length = n * sz) (h1 : n ≤ cap) (h2 : cap ≤ maxLen) (h3 : cur.size = cap * sz) (h4 : cur.toList.take (n * sz) = xs) (h : Hp)
    (hb : blk g (.cells cur e (0, 0)) h) : row e sz (.slice (some ⟨g, 0, none⟩) n cap) n xs h := ⟨hl, .inr ⟨g, cap, cur, rfl, h1, h2, h3, h4, hb⟩⟩

/-- an empty slice of ours -/
theorem Own.nilRow {w0 w : World} {L : List HP} (H : Own w0 w L) (e : TypeId) (sz : Nat) : Own w0 w (row e sz (.slice none 0 0) 0 [] :: L) := by
  refine H.entail fun h hs => ⟨fun _ => none, h, fun _ => .inl rfl, ?_, row_nil e sz _ (fun _ => rfl), hs⟩
  funext k; simp [Hp.add]

theorem Own.row_shape {w0 w : World} {L : List HP} (H : Own w0 w L) {j : Nat} {e : TypeId} {sz : Nat} {v : Value} {n : Nat} {xs : List Value} (hi : L[j]? = some (row e sz v n xs)) :
    xs.length = n * sz ∧ ((v = .slice none 0 0 ∧ n = 0) ∨ ∃ g cap cur, v = .slice (some ⟨g, 0, none⟩) n cap ∧ n ≤ cap ∧ cap ≤ maxLen ∧ cur.size = cap * sz ∧ cur.toList.take (n * sz) = xs ∧
      w0.heap.size ≤ g ∧ w.heap[g]? = some (.cells cur e (0, 0)) ∧ Own w0 w (L.set j (blk g (.cells cur e (0, 0))))) := by
  obtain ⟨hB, h, hl, hs⟩ := H
  obtain ⟨x, y, d, rfl, ⟨h1, h2⟩, c⟩ := starL_focus hi hs
  refine ⟨h1, ?_⟩
  rcases h2 with ⟨a, b, _⟩ | ⟨g, cap, cur, a1, a2, a3, a4, a5, a6⟩
  · exact .inl ⟨a, b⟩
  · have := hl g (.cells cur e (0, 0)) (by simp [Hp.add, a6.1])
    exact .inr ⟨g, cap, cur, a1, a2, a3, a4, a5, this.1, this.2, hB, _, hl, starL_unfocus hi ⟨x, y, d, rfl, a6, c⟩⟩

theorem oneV_one {v : Value} (h : oneV v = true) : v.oneCell' = true := by cases v <;> simp_all [oneV, Value.oneCell']
theorem allOne_mem : ∀ {l : List Value}, allOne l = true → ∀ v ∈ l, v.oneCell' = true := by
  intro l
  induction l with
  | nil => intro _ v h; cases h
  | cons x l ih =>
    intro h v hv
    simp only [allOne, Bool.and_eq_true] at h
    cases hv with
    | head => exact oneV_one h.1
    | tail _ hv => exact ih h.2 v hv

theorem Own.newRow {w0 w : World} {L : List HP} (H : Own w0 w L) {j : Nat} {A B : HP} (hi : L[j]? = some A) {o : Obj} (hB : ∀ h, blk w.heap.size o h → B h) : Own w0 (w.drew.alloc o) (L.set j B) := by
  have h1 : Own w0 (w.drew.alloc o) (blk w.heap.size o :: L) := H.drew.new o
  have h2 := h1.drop (j + 1)
  refine h2.entail fun h hs => ?_
  have hs' : star (blk w.heap.size o) (starL (L.eraseIdx j)) h := hs
  exact starL_unfocus hi (star_mono hB (fun _ h => h) hs')

theorem run_append_row {P : Program} {w0 w : World} {L : List HP} (H : Own w0 w L) {j : Nat} {e : TypeId} {v : Value} {n : Nat} {xs : List Value} (t ty : TypeId) (i : TypeInfo) (z : Value)
    (hi : L[j]? = some (row e i.size v n xs)) (ht : P.underlying t = some (.slice e)) (hinfo : P.info? e = some i) (hz : i.zero = some z) (hzs : z.cells.size = i.size) (hsz : 0 < i.size)
    (a : Addr) (m c : Nat) (news : List Value) (hl : news.length = m * i.size) (hnews : ∀ j u, news[j]? = some u → w.cell? (a.add j) = some u) (h1 : allOne news = true)
    (h63 : n + m ≤ maxLen) (hbytes : (n + m) * i.bytes ≤ 140737488355328) :
    ∃ v' w', (Builtin.append_ #[t, t] ty #[v, .slice (some a) m c]).run P w = .ok v' w' ∧ Own w0 w' (L.set j (row e i.size v' (n + m) (xs ++ news))) ∧ w.heap.size ≤ w'.heap.size := by
  have hsmall : n + m ≤ 9223372036854775807 := by simp only [maxLen] at h63; omega
  obtain ⟨hxl, hshape⟩ := H.row_shape hi
  have hlen : (xs ++ news).length = (n + m) * i.size := by rw [List.length_append, hxl, hl, Nat.add_mul]
  have hgrown : ∀ old, old < n + m → ∀ h, blk w.heap.size (.cells (xs.toArray ++ news.toArray ++ Builtin.zeroCells z.cells (grownCap w (n + m) old e - (n + m))) e (0, 0)) h →
      row e i.size (.slice (some ⟨w.heap.size, 0, none⟩) (n + m) (grownCap w (n + m) old e)) (n + m) (xs ++ news) h := by
    intro old ho h hb
    have hge := grownCap_ge w (n + m) old e
    have hcm : grownCap w (n + m) old e ≤ maxLen := grownCap_le_maxLen w (n + m) old e h63
    refine row_of_blk hlen hge hcm ?_ ?_ h hb
    · simp only [Array.size_append, List.size_toArray, size_zeroCells, hzs, hxl, hl, ← Nat.add_mul]
      congr 1
      omega
    · simp only [Array.toList_append, List.append_assoc]
      rw [← List.append_assoc, ← hlen]
      exact List.take_left
  rcases hshape with ⟨rfl, rfl⟩ | ⟨g, cap, cur, rfl, hnc, hcm, hcs, htake, hg0, hg, H'⟩
  · have hx : xs = [] := List.eq_nil_of_length_eq_zero (by simpa using hxl)
    subst hx
    by_cases hm : m = 0
    · subst hm
      have hn : news = [] := List.eq_nil_of_length_eq_zero (by simpa using hl)
      subst hn
      refine ⟨.slice none 0 0, w, ?_, H.upd hi (fun h hh => hh), Nat.le_refl _⟩
      simp [Builtin.append_, run_underlying ht, sizeOf, typeInfo, hinfo, Builtin.lenOf, Builtin.firstCells, loadCells, loadCellsFrom]
    · have hr := run_append_nil (P := P) w t ty e i z ht hinfo hz a m c news hl hnews (by omega) (by omega) (by have hb := hbytes; simp only [Nat.zero_add] at hb; omega)
      have hgr := hgrown 0 (by omega)
      simp only [Nat.zero_add, List.nil_append, Array.empty_append] at hgr ⊢
      exact ⟨_, _, hr, H.newRow hi hgr, by simp⟩
  · by_cases hroom : n + m ≤ cap
    · have hfit : n * i.size + news.length ≤ cur.size := by rw [hl, hcs, ← Nat.add_mul]; exact Nat.mul_le_mul_right _ hroom
      have hr := run_append_room (P := P) w t ty e i ht hinfo g n cap cur hg a m c news hl hnews (allOne_mem h1) hroom hfit
      refine ⟨_, _, hr, ?_, by simp⟩
      have hlt : j < L.length := (List.getElem?_eq_some_iff.1 hi).1
      have H2 := H'.put (i := j) (β := g) (o := .cells cur e (0, 0)) (by simp [hlt]) (.cells (cur.toList.take (n * i.size) ++ news ++ cur.toList.drop (n * i.size + news.length)).toArray e (0, 0)) (w' := w.setRow g (cur.toList.take (n * i.size) ++ news ++ cur.toList.drop (n * i.size + news.length)).toArray)
        rfl rfl rfl (by simp) (fun k hk _ => setRow_other w g k _ hk) (setRow_heap w g cur _ e _ hg)
      rw [List.set_set] at H2
      have hrow := row_of_blk (e := e) (sz := i.size) (g := g) (n := n + m) (cap := cap) (xs := xs ++ news)
        (cur := (cur.toList.take (n * i.size) ++ news ++ cur.toList.drop (n * i.size + news.length)).toArray) hlen hroom hcm (by
          simp only [List.size_toArray, List.length_append, List.length_take, List.length_drop, Array.length_toList]
          omega) (by
          show List.take _ (cur.toList.take (n * i.size) ++ news ++ cur.toList.drop (n * i.size + news.length)) = _
          rw [htake, ← hlen]
          exact List.take_left)
      have H3 := H2.upd (List.getElem?_set_self hlt) hrow
      rwa [List.set_set] at H3
    · have holds : ∀ k u, xs[k]? = some u → w.cell? ((⟨g, 0, none⟩ : Addr).add k) = some u := by
        intro k u hu
        have hadd : (⟨g, 0, none⟩ : Addr).add k = ⟨g, k, none⟩ := by unfold Addr.add; split <;> simp_all
        rw [hadd, cell_of_row w g k cur e (0, 0) hg]
        rw [← htake, List.getElem?_take] at hu
        split at hu
        · simpa using hu
        · cases hu
      have hr := run_append_grow (P := P) w t ty e i z ht hinfo hz ⟨g, 0, none⟩ n cap xs hxl holds a m c news hl hnews (by omega) (by omega) (growslice_fits (by omega) hbytes)
      exact ⟨_, _, hr, H.newRow hi (hgrown cap (by omega)), by simp⟩

/-- what append asks of an element's type: its size, its bytes -/
def tyApp (P : Program) (e : TypeId) : Option (Nat × Nat) :=
  match P.info? e with
  | some i => match i.zero with
    | some z => bif Nat.beq z.cells.size i.size && Nat.ble 1 i.size then some (i.size, i.bytes) else none
    | none => none
  | none => none

section
variable {P : Program} {N : Sz} {ops : Array Oper} {Q : Exit → Act → World → Prop} {rest : List Oper} {fr : Fr} {w w0 : World} {L : List HP}
  {d : Option Tmp} {ty : TypeId} {pos : String} {af : Array Edge}

theorem JL.append {s x : Operand} {t e : TypeId} {v : Value} {sz bytes n m c β off : Nat} {xs news : List Value} (j : Nat) (H : Own w0 w L) (ht : P.underlying t = some (.slice e)) (ha : tyApp P e = some (sz, bytes))
    (hs : fr.ev s = some v) (hx : fr.ev x = some (.slice (some ⟨β, off, none⟩) m c)) (hi : L[j]? = some (row e sz v n xs)) (hl : news.length = m * sz)
    (hnews : ∀ k u, news[k]? = some u → w.cell? ⟨β, off + k, none⟩ = some u) (h1 : allOne news = true) (hb : (n + m) * bytes ≤ 140737488355328) (h63 : n + m ≤ 9223372036854775807) (hd : Fr.fits N d = true)
    (k : ∀ v' w', Own w0 w' (L.set j (row e sz v' (n + m) (xs ++ news))) → JL P N ops Q rest (fr.put d v') w') :
    JL P N ops Q (⟨d, .call ⟨.builtin .append, #[s, x], #[t, t]⟩, ty, pos, af, none⟩ :: rest) fr w := by
  unfold tyApp at ha
  split at ha
  · rename_i i hinfo
    split at ha
    · rename_i z hz
      cases hc : (Nat.beq z.cells.size i.size && Nat.ble 1 i.size) with
      | false => rw [hc] at ha; cases ha
      | true =>
        rw [hc] at ha
        cases ha
        simp only [Bool.and_eq_true] at hc
        have hzs := Nat.eq_of_beq_eq_true hc.1
        have hsz := Nat.le_of_ble_eq_true hc.2
        obtain ⟨v', w', hr, H', _⟩ := run_append_row (P := P) H t ty i z hi ht hinfo hz hzs hsz ⟨β, off, none⟩ m c news hl (fun k u hk => by
          have := hnews k u hk
          simp only [Addr.add]
          split
          · rename_i h0; subst h0; simpa using this
          · exact this) h1 (by simp only [maxLen]; omega) hb
        refine JL.val rfl hd (fun a Ha => ?_) (k v' w' H')
        simp only [execOp, resolve, invoke, builtin, Sem.run_bind, Sem.run_pure, Result.andThen_ok, List.map_toArray, List.map_cons, List.map_nil, Ha.eval hs, Ha.eval hx, hr]
    · cases ha
  · cases ha

/-- append of what lies in a block of ours -/
theorem JL.append1 {s x : Operand} {t e : TypeId} {v : Value} {sz bytes n m c β : Nat} {xs news : List Value} {e' : TypeId} {fz : Nat × Nat} (j i : Nat) (H : Own w0 w L) (ht : P.underlying t = some (.slice e)) (ha : tyApp P e = some (sz, bytes))
    (hs : fr.ev s = some v) (hx : fr.ev x = some (.slice (some ⟨β, 0, none⟩) m c)) (hi : L[j]? = some (row e sz v n xs)) (hsrc : L[i]? = some (blk β (.cells ⟨news⟩ e' fz))) (hl : news.length = m * sz)
    (h1 : allOne news = true) (hb : (n + m) * bytes ≤ 140737488355328) (h63 : n + m ≤ 9223372036854775807) (hd : Fr.fits N d = true)
    (k : ∀ v' w', Own w0 w' (L.set j (row e sz v' (n + m) (xs ++ news))) → JL P N ops Q rest (fr.put d v') w') :
    JL P N ops Q (⟨d, .call ⟨.builtin .append, #[s, x], #[t, t]⟩, ty, pos, af, none⟩ :: rest) fr w :=
  JL.append j H ht ha hs hx hi hl (fun q u hq => by
    have hb := (H.get hsrc).2
    simp only [World.cell?, hb]
    simpa using hq) h1 hb h63 hd k

theorem setLK_at0 {α : Type} {x : HP} : ∀ {i : Nat} {L : List HP} (k : List HP → Option α), i < L.length → setLK x i L k = k (L.set i x) := by
  intro i
  induction i with
  | zero => intro L k h; cases L with
    | nil => simp at h
    | cons c cs => rfl
  | succ o ih => intro cs k h; cases cs with
    | nil => simp at h
    | cons c cs => simp only [setLK, List.set_cons_succ]; exact ih _ (by simpa using h)
theorem Own.unfront {w0 w : World} {L : List HP} {A C : HP} {i : Nat} (hi : L[i]? = some A) (H : Own w0 w (C :: L.eraseIdx i)) : Own w0 w (L.set i C) := H.entail fun _ hs => starL_unfocus hi hs
theorem List.eraseIdx_append' {α : Type} {X L : List α} {j : Nat} : (X ++ L).eraseIdx (X.length + j) = X ++ L.eraseIdx j := by
  induction X with
  | nil => simp
  | cons x X ih => simp only [List.cons_append, List.length_cons]; rw [show X.length + 1 + j = (X.length + j) + 1 by omega, List.eraseIdx_cons_succ, ih]
/-- append in a drawn region: the one operation that writes -/
theorem JD.append {d : Tmp} {n i : Nat} {fr0 : Nat → Fr} {Z : Fr → World → Prop} {Ls : Nat → List HP} {r : List Oper} {ks : List Kn} {s : Operand} {x : Tmp} {t e : TypeId} {v : Value} {sz bytes n0 m kk : Nat} {xs news : List Value} {e' : TypeId} (j : Nat)
    (ht : P.underlying t = some (.slice e)) (ha : tyApp P e = some (sz, bytes)) (hi : (Ls 0)[j]? = some (row e sz v n0 xs)) (h1L : Ls 1 = (Ls 0).eraseIdx j)
    (hf : findD x ks = some (.nd kk x none (slcHP (.cells ⟨news⟩ e' (0, 0)) m) (slcHP (.cells ⟨news⟩ e' (0, 0)) m))) (hdep : depsOf af kk = true) (hsv : (frDet (depsOf af) ks (fr0 i)).ev s = some v)
    (hl : news.length = m * sz) (h1 : allOne news = true) (hb : (n0 + m) * bytes ≤ 140737488355328) (h63 : n0 + m ≤ 9223372036854775807) (hd : Fr.fits N (some d) = true)
    (k : JD P N ops Q n [i] Ls w0 fr0 Z r (i + 1) (.nd i d none (fun v' => row e sz v' (n0 + m) (xs ++ news)) (fun v' => row e sz v' (n0 + m) (xs ++ news)) :: ks)) (hs0 : noS ks i = true := by rfl) :
    JD P N ops Q n [i] Ls w0 fr0 Z (⟨some d, .call ⟨.builtin .append, #[s, .tmp x], #[t, t]⟩, ty, pos, af, none⟩ :: r) i ks := by
  have g1 := findD_spec hf
  refine ⟨.nd i d none (fun v' => row e sz v' (n0 + m) (xs ++ news)) (fun v' => row e sz v' (n0 + m) (xs ++ news)), some (.nd kk x none (slcHP (.cells ⟨news⟩ e' (0, 0)) m) (slcHP (.cells ⟨news⟩ e' (0, 0)) m)), rfl, rfl, fun s hs => (by cases hs),
    ⟨g1, hdep, .inl rfl, fun k' hk' hs' => absurd hs' (noS_spec hs0 k' hk'), fun p a w X u hp1 hp2 hO Hf hx => ?_⟩, k⟩
  have hp : p = 0 := by
    cases p with
    | zero => rfl
    | succ p => exfalso; simp [phOK] at hp2
  subst hp
  have hnp : nextP [i] i 0 = 1 := by simp [nextP]
  rw [hnp]
  obtain ⟨β, rfl, hO'⟩ := hO.slc (j := 0) rfl
  have hblk := (hO'.get (i := 0) rfl).2
  have hidx : ((blk β (.cells ⟨news⟩ e' (0, 0))) :: (X ++ Ls 0))[X.length + j + 1]? = some (row e sz v n0 xs) := by
    rw [List.getElem?_cons_succ, List.getElem?_append_right (by omega), show X.length + j - X.length = j by omega]; exact hi
  have hO2 : Own w0 w ((blk β (.cells ⟨news⟩ e' (0, 0))) :: (X ++ Ls 0)) := hO'
  unfold tyApp at ha
  split at ha
  · rename_i ti hinfo
    split at ha
    · rename_i z hz
      cases hc : (Nat.beq z.cells.size ti.size && Nat.ble 1 ti.size) with
      | false => rw [hc] at ha; cases ha
      | true =>
        rw [hc] at ha
        cases ha
        simp only [Bool.and_eq_true] at hc
        have hzs := Nat.eq_of_beq_eq_true hc.1
        have hsz := Nat.le_of_ble_eq_true hc.2
        have hnews : ∀ (q : Nat) u, news[q]? = some u → w.cell? ((⟨β, 0, none⟩ : Addr).add q) = some u := by
          intro q u hq
          have hadd : (⟨β, 0, none⟩ : Addr).add q = ⟨β, q, none⟩ := by unfold Addr.add; split <;> simp_all
          rw [hadd]
          simp only [World.cell?, hblk]
          simpa using hq
        obtain ⟨v', w', hr, H', _⟩ := run_append_row (P := P) hO2 t ty ti z hidx ht hinfo hz hzs hsz ⟨β, 0, none⟩ m m news hl hnews h1 (by simp only [maxLen]; omega) hb
        have Hf' := Hf.more hx
        have hs2 := Hf.shadow hx hsv
        refine JL.val (v := v') (w' := w') rfl hd (fun a2 Ha => ?_) (JL.nil fun a2 H2 => ?_) a Hf'
        · have hxx : a2.eval (.tmp x) = .slice (some ⟨β, 0, none⟩) m m := Ha.eval (by simp [Fr.ev, Fr.get])
          simp only [execOp, resolve, invoke, builtin, Sem.run_bind, Sem.run_pure, Result.andThen_ok, List.map_toArray, List.map_cons, List.map_nil, Ha.eval hs2, hxx, hr]
        · refine ⟨H2.defers, v', H2.get d v' (by simp [Fr.put, Fr.get]), ?_⟩
          have hlt : X.length + j + 1 < ((blk β (.cells ⟨news⟩ e' (0, 0))) :: (X ++ Ls 0)).length := (List.getElem?_eq_some_iff.1 hidx).1
          have H3 := H'.front _ (List.getElem?_set_self hlt)
          have e1 : (((blk β (.cells ⟨news⟩ e' (0, 0))) :: (X ++ Ls 0)).set (X.length + j + 1) (row e ti.size v' (n0 + m) (xs ++ news))).eraseIdx (X.length + j + 1) = (blk β (.cells ⟨news⟩ e' (0, 0))) :: (X ++ (Ls 0).eraseIdx j) := by
            rw [List.eraseIdx_set_eq, List.eraseIdx_cons_succ, List.eraseIdx_append']
          rw [e1] at H3
          rw [h1L]
          refine H3.entail fun _ hs => star_mono (fun _ h => h) (fun _ hs => star_mono (fun _ hb => ?_) (fun _ h => h) hs) hs
          simp only [reduceCtorEq, if_false]
          exact ⟨β, rfl, hb⟩
    · cases ha
  · cases ha
/-- a store into a block of ours, in a drawn region -/
theorem JD.storeB {n i : Nat} {es : List Nat} {Ls : Nat → List HP} {fr0 : Nat → Fr} {Z : Fr → World → Prop} {r : List Oper} {ks : List Kn} {x y : Operand} {t : TypeId} {β off m : Nat} {b : Bool} {v : Value} {cs cs' : List Value} {e : TypeId} {L' : List HP} (q j : Nat)
    (hph : ∀ p, p ≤ es.length → phOK ops es i p = true → p = q) (hmem : es.contains i = true)
    (hx : (frDet (depsOf af) ks (fr0 i)).ev x = some (.pointer (some ⟨β, off, none⟩))) (hy : (frDet (depsOf af) ks (fr0 i)).ev y = some v) (hs : tySh P t = some (b, m)) (hi : (Ls q)[j]? = some (blk β (.cells ⟨cs⟩ e (0, 0))))
    (hn : (cellsL v).length = m) (h1 : allOne (cellsL v) = true) (hset : setK off (cellsL v) cs some = some cs') (hL : setLK (blk β (.cells ⟨cs'⟩ e (0, 0))) j (Ls q) some = some L')
    (hL' : Ls (q + 1) = L') (k : JD P N ops Q n es Ls w0 fr0 Z r (i + 1) (.det i none undef :: ks)) (hs0 : noS ks i = true := by rfl) :
    JD P N ops Q n es Ls w0 fr0 Z (⟨none, .store t x y, ty, pos, af, none⟩ :: r) i ks := by
  refine ⟨.det i none undef, none, rfl, rfl, fun s hs => (by cases hs), ⟨noS_spec hs0, fun p a w X hp1 hp2 hO Hf => ?_⟩, k⟩
  have hp := hph p hp1 hp2
  subst hp
  have hnp : nextP es i p = p + 1 := by simp only [nextP, hmem, cond_true]
  rw [hnp]
  have hidx : (X ++ Ls p)[X.length + j]? = some (blk β (.cells ⟨cs⟩ e (0, 0))) := by
    rw [List.getElem?_append_right (by omega), show X.length + j - X.length = j by omega]; exact hi
  have hlt : X.length + j < (X ++ Ls p).length := (List.getElem?_eq_some_iff.1 hidx).1
  refine JL.storeB (X.length + j) hO hx hy hs hidx hn h1 hset (setLK_at0 _ hlt) (fun w' HH => JL.nil fun a2 H2 => ⟨H2.defers, fun t ht => (by cases ht), ?_⟩) a Hf
  have h2 := setLK_eq hL
  simp at h2
  rw [hL', ← h2]
  rw [List.set_append_right _ _ (by omega), show X.length + j - X.length = j by omega] at HH
  exact HH
end
end Go.J
