/-
  Lemmas for the statements of this seat; no statement is proved here. No condition.
-/
import Derived.Test.YtfbmgmdjaoackaaJSeg
import Derived.MapKept
import Derived.Maps.RangeRun
namespace Go.J
set_option linter.unusedSimpArgs false
set_option linter.unusedVariables false
open Go.RowKit
open Go.ChangeMaps (setBlock)
/-! ## maps: as lists of pairs -/
section
variable {K V : Type} [DecidableEq K]
def mget : List (K × V) → K → Option V
  | [], _ => none
  | p :: r, k => if p.1 = k then some p.2 else mget r k
def mset : List (K × V) → K → V → List (K × V)
  | [], k, v => [(k, v)]
  | p :: r, k, v => if p.1 = k then (k, v) :: r else p :: mset r k v
def mdel : List (K × V) → K → List (K × V)
  | [], _ => []
  | p :: r, k => if p.1 = k then r else p :: mdel r k
theorem mget_mset (k : K) (v : V) (k' : K) : ∀ m : List (K × V), mget (mset m k v) k' = if k = k' then some v else mget m k' := by
  intro m
  induction m with
  | nil => simp only [mset, mget]
  | cons p m ih =>
    simp only [mset]
    split
    · rename_i h
      simp only [mget]
      by_cases hk : k = k'
      · simp [hk]
      · rw [if_neg hk, if_neg hk, if_neg (by rw [h]; exact hk)]
    · rename_i h
      simp only [mget, ih]
      by_cases hk : k = k'
      · subst hk; simp [h]
      · simp only [if_neg hk]
theorem mset_keys (k : K) (v : V) : ∀ m : List (K × V), ∀ x, x ∈ (mset m k v).map Prod.fst ↔ x = k ∨ x ∈ m.map Prod.fst := by
  intro m
  induction m with
  | nil => intro x; simp [mset]
  | cons p m ih =>
    intro x
    simp only [mset]
    split
    · rename_i h
      simp only [List.map_cons, List.mem_cons, h]
      constructor
      · rintro (h | h)
        · exact .inl h
        · exact .inr (.inr h)
      · rintro (h | h | h)
        · exact .inl h
        · exact .inl h
        · exact .inr h
    · simp only [List.map_cons, List.mem_cons, ih]
      constructor
      · rintro (h | h | h)
        · exact .inr (.inl h)
        · exact .inl h
        · exact .inr (.inr h)
      · rintro (h | h | h)
        · exact .inr (.inl h)
        · exact .inl h
        · exact .inr (.inr h)
theorem mset_nodup (k : K) (v : V) : ∀ m : List (K × V), (m.map Prod.fst).Nodup → ((mset m k v).map Prod.fst).Nodup := by
  intro m
  induction m with
  | nil => intro _; simp [mset]
  | cons p m ih =>
    intro h
    simp only [List.map_cons, List.nodup_cons] at h
    simp only [mset]
    split
    · rename_i hp
      simp only [List.map_cons, List.nodup_cons]
      exact ⟨hp ▸ h.1, h.2⟩
    · rename_i hp
      simp only [List.map_cons, List.nodup_cons]
      refine ⟨fun hm => ?_, ih h.2⟩
      rcases (mset_keys k v m p.1).1 hm with h' | h'
      · exact hp h'
      · exact h.1 h'
theorem mget_none {k : K} : ∀ {m : List (K × V)}, mget m k = none ↔ k ∉ m.map Prod.fst := by
  intro m
  induction m with
  | nil => simp [mget]
  | cons p m ih =>
    simp only [mget]
    split
    · rename_i h; simp [h]
    · rename_i h; rw [ih]; simp only [List.map_cons, List.mem_cons, not_or]; exact ⟨fun h' => ⟨fun e => h e.symm, h'⟩, fun h' => h'.2⟩
theorem mget_mem {k : K} {v : V} : ∀ {m : List (K × V)}, mget m k = some v → (k, v) ∈ m := by
  intro m
  induction m with
  | nil => intro h; cases h
  | cons p m ih =>
    intro h
    simp only [mget] at h
    split at h
    · rename_i hp; cases h; rw [← hp]; exact List.mem_cons_self
    · exact List.mem_cons_of_mem _ (ih h)
theorem mget_of_mem {k : K} {v : V} : ∀ {m : List (K × V)}, (m.map Prod.fst).Nodup → (k, v) ∈ m → mget m k = some v := by
  intro m
  induction m with
  | nil => intro _ h; cases h
  | cons p m ih =>
    intro hn h
    simp only [List.map_cons, List.nodup_cons] at hn
    simp only [mget]
    cases h with
    | head => simp
    | tail _ h =>
      rw [if_neg (fun hp => hn.1 (by rw [hp]; exact List.mem_map.2 ⟨_, h, rfl⟩))]
      exact ih hn.2 h
theorem mdel_sub (k : K) : ∀ {m : List (K × V)}, (mdel m k).Sublist m := by
  intro m
  induction m with
  | nil => exact List.Sublist.refl _
  | cons p m ih =>
    simp only [mdel]
    split
    · exact List.sublist_cons_self _ _
    · exact ih.cons_cons _
theorem mdel_nodup (k : K) {m : List (K × V)} (h : (m.map Prod.fst).Nodup) : ((mdel m k).map Prod.fst).Nodup := h.sublist ((mdel_sub k).map _)
theorem mget_mdel (k k' : K) : ∀ {m : List (K × V)}, (m.map Prod.fst).Nodup → mget (mdel m k) k' = if k = k' then none else mget m k' := by
  intro m
  induction m with
  | nil => intro _; simp [mdel, mget]
  | cons p m ih =>
    intro hn
    simp only [List.map_cons, List.nodup_cons] at hn
    simp only [mdel]
    split
    · rename_i hp
      simp only [mget]
      by_cases hk : k = k'
      · subst hk
        rw [if_pos rfl, mget_none, ← hp]
        exact hn.1
      · rw [if_neg hk, if_neg (by rw [hp]; exact hk)]
    · rename_i hp
      simp only [mget, ih hn.2]
      by_cases hk : k = k'
      · subst hk; simp [hp]
      · simp only [if_neg hk]
end
/-- the keys of a map's type, as they are known -/
structure KeyT (P : Program) (kt : TypeId) {K : Type} (kev : K → Value) : Prop where
  inj : ∀ {a b : K}, kev a = kev b → a = b
  check : ∀ (em : Bool) (k : K) (w : World), (Instr.checkKey em 10000 kt (kev k)).run P w = .ok () w
  find : ∀ (k : K) (w : World) (es : List MapEntry), (∀ e ∈ es, ∃ k' : K, e.key = kev k') →
    ((Instr.findKey kt (kev k) es).run P w = .ok none w ∧ ∀ e ∈ es, e.key ≠ kev k) ∨ ∃ j e, (Instr.findKey kt (kev k) es).run P w = .ok (some (j, e.val)) w ∧ es[j]? = some e ∧ e.key = kev k
  stays : ∀ (k : K) (w : World), (Instr.keyThatStays (kev k) (kev k)).run P w = .ok (kev k) w
theorem KeyT.plain {P : Program} {kt : TypeId} {K : Type} {kev : K → Value} {d : TypeDesc} (hd : P.underlying kt = some d) (hk : ∀ k, MapKept.IsKey d (kev k)) (inj : ∀ {a b : K}, kev a = kev b → a = b) : KeyT P kt kev := by
  refine ⟨inj, fun em k w => MapKept.run_checkKey hd (hk k) em 9999, fun k w es hes => ?_, fun k w => MapKept.run_keyThatStays (hk k)⟩
  rcases MapKept.findNow_spec (hk k) es 0 (fun x hx => by obtain ⟨k', h⟩ := hes x hx; rw [h]; exact hk k') with ⟨h1, h2⟩ | ⟨j, e, h1, h2, h3⟩
  · exact .inl ⟨MapKept.run_findKey hd h1, h2⟩
  · exact .inr ⟨j, e, by simpa using MapKept.run_findKey hd h1, h2, h3⟩
theorem findAsking_run {P : Program} {kt : TypeId} {K : Type} [DecidableEq K] {kev : K → Value} (heq : ∀ (a b : K) (w : World), (Op.equal kt (kev a) (kev b)).run P w = .ok (decide (a = b)) w) (k : K) (w : World) :
    ∀ (es : List MapEntry) (i : Nat), (∀ e ∈ es, ∃ k' : K, e.key = kev k') → ((Instr.findAsking kt (kev k) es i).run P w = .ok none w ∧ ∀ e ∈ es, e.key ≠ kev k ∨ False) ∨
      ∃ j e, (Instr.findAsking kt (kev k) es i).run P w = .ok (some (i + j, e.val)) w ∧ es[j]? = some e ∧ ∃ k', e.key = kev k' ∧ k' = k := by
  intro es
  induction es with
  | nil => intro i _; exact .inl ⟨by simp [Instr.findAsking], fun e he => by cases he⟩
  | cons e es ih =>
    intro i h
    obtain ⟨k', hk'⟩ := h e (by simp)
    simp only [Instr.findAsking]
    rw [Sem.run_bind, hk', heq k k' w]
    simp only [Result.andThen]
    by_cases hkk : k = k'
    · right
      refine ⟨0, e, ?_, rfl, k', hk', hkk.symm⟩
      simp [hkk]
    · rcases ih (i + 1) (fun x hx => h x (List.mem_cons_of_mem _ hx)) with ⟨h1, h2⟩ | ⟨j, x, h1, h2, h3⟩
      · by_cases hkv : kev k' = kev k
        · exfalso
          have e1 := heq k k' w
          rw [hkv, heq k k w] at e1
          simp [hkk] at e1
        · left
          refine ⟨by simpa [hkk] using h1, fun x hx => ?_⟩
          cases hx with
          | head => rw [hk']; exact .inl hkv
          | tail _ hx => exact h2 x hx
      · right
        refine ⟨j + 1, x, ?_, by simpa using h2, h3⟩
        rw [show i + (j + 1) = i + 1 + j by omega]
        simpa [hkk] using h1
theorem KeyT.agg {P : Program} {kt : TypeId} {K : Type} [DecidableEq K] {kev : K → Value} {fs : Array Field} (hd : P.underlying kt = some (.struct fs)) (inj : ∀ {a b : K}, kev a = kev b → a = b)
    (check : ∀ (em : Bool) (k : K) (w : World), (Instr.checkKey em 10000 kt (kev k)).run P w = .ok () w) (heq : ∀ (a b : K) (w : World), (Op.equal kt (kev a) (kev b)).run P w = .ok (decide (a = b)) w)
    (bits : ∀ k, Instr.sameBits 10000 (kev k) (kev k) = true) : KeyT P kt kev := by
  refine ⟨inj, check, fun k w es hes => ?_, fun k w => by simp [Instr.keyThatStays, bits k]⟩
  have hrun : (Instr.findKey kt (kev k) es).run P w = (Instr.findAsking kt (kev k) es).run P w := by
    unfold Instr.findKey
    rw [Sem.run_bind, run_underlying hd]
    simp only [Result.andThen]
    cases es with
    | nil => simp [Instr.findNow, Instr.findAsking]
    | cons e es => simp [Instr.findNow, Instr.sameNow]
  rw [hrun]
  rcases findAsking_run heq k w es 0 hes with ⟨h1, h2⟩ | ⟨j, e, h1, h2, k', h3, rfl⟩
  · exact .inl ⟨h1, fun e he => (h2 e he).resolve_right id⟩
  · exact .inr ⟨j, e, by simpa using h1, h2, h3⟩
/-- a map's block holds the pairs m -/
structure MapIs {K V : Type} (kev : K → Value) (vev : V → Value) (es : Array MapEntry) (clock : Nat) (m : List (K × V)) : Prop where
  enc : es.toList.map (fun e => (e.key, e.val)) = m.map (fun p => (kev p.1, vev p.2))
  nodup : (m.map Prod.fst).Nodup
  born : (es.toList.map (·.born)).Nodup
  old : ∀ e ∈ es.toList, e.born < clock
section
variable {K V : Type} {kev : K → Value} {vev : V → Value} {es : Array MapEntry} {clock : Nat} {m : List (K × V)}
theorem MapIs.empty (clock : Nat) : MapIs kev vev #[] clock [] := ⟨rfl, by simp, by simp, by simp⟩
theorem MapIs.size (h : MapIs kev vev es clock m) : es.size = m.length := by
  have := congrArg List.length h.enc
  simpa using this
theorem MapIs.at (h : MapIs kev vev es clock m) {j : Nat} {e : MapEntry} (he : es.toList[j]? = some e) : ∃ p, m[j]? = some p ∧ e.key = kev p.1 ∧ e.val = vev p.2 := by
  have h1 := congrArg (·[j]?) h.enc
  simp only [List.getElem?_map, he, Option.map_some] at h1
  cases hm : m[j]? with
  | none => rw [hm] at h1; cases h1
  | some p =>
    rw [hm] at h1
    simp only [Option.map_some, Option.some.injEq, Prod.mk.injEq] at h1
    exact ⟨p, rfl, h1.1, h1.2⟩
theorem MapIs.keys (h : MapIs kev vev es clock m) : ∀ e ∈ es.toList, ∃ k' : K, e.key = kev k' := by
  intro e he
  obtain ⟨j, hj⟩ := List.mem_iff_getElem?.1 he
  obtain ⟨p, _, h1, _⟩ := h.at hj
  exact ⟨p.1, h1⟩
variable [DecidableEq K]
theorem mget_at {k : K} : ∀ {m : List (K × V)} {j : Nat} {p : K × V}, (m.map Prod.fst).Nodup → m[j]? = some p → p.1 = k → mget m k = some p.2 := by
  intro m j p hn hj hp
  exact mget_of_mem hn (by rw [← hp]; exact List.mem_of_getElem? hj)
theorem mset_at (k : K) (v : V) : ∀ {m : List (K × V)} {j : Nat} {p : K × V}, (m.map Prod.fst).Nodup → m[j]? = some p → p.1 = k → mset m k v = m.set j (k, v) := by
  intro m
  induction m with
  | nil => intro j p _ h; simp at h
  | cons q m ih =>
    intro j p hn hj hp
    simp only [List.map_cons, List.nodup_cons] at hn
    cases j with
    | zero => simp at hj; subst hj; simp [mset, hp]
    | succ j =>
      simp at hj
      simp only [mset, List.set_cons_succ]
      rw [if_neg (fun h => hn.1 (by rw [h, ← hp]; exact List.mem_map.2 ⟨p, List.mem_of_getElem? hj, rfl⟩)), ih hn.2 hj hp]
theorem mset_new (k : K) (v : V) : ∀ {m : List (K × V)}, k ∉ m.map Prod.fst → mset m k v = m ++ [(k, v)] := by
  intro m
  induction m with
  | nil => intro _; rfl
  | cons q m ih =>
    intro h
    simp only [List.map_cons, List.mem_cons, not_or] at h
    simp only [mset, List.cons_append]
    rw [if_neg (fun e => h.1 e.symm), ih h.2]
theorem mdel_at (k : K) : ∀ {m : List (K × V)} {j : Nat} {p : K × V}, (m.map Prod.fst).Nodup → m[j]? = some p → p.1 = k → mdel m k = m.eraseIdx j := by
  intro m
  induction m with
  | nil => intro j p _ h; simp at h
  | cons q m ih =>
    intro j p hn hj hp
    simp only [List.map_cons, List.nodup_cons] at hn
    cases j with
    | zero => simp at hj; subst hj; simp [mdel, hp]
    | succ j =>
      simp at hj
      simp only [mdel, List.eraseIdx_cons_succ]
      rw [if_neg (fun h => hn.1 (by rw [h, ← hp]; exact List.mem_map.2 ⟨p, List.mem_of_getElem? hj, rfl⟩)), ih hn.2 hj hp]
theorem mdel_new (k : K) : ∀ {m : List (K × V)}, k ∉ m.map Prod.fst → mdel m k = m := by
  intro m
  induction m with
  | nil => intro _; rfl
  | cons q m ih =>
    intro h
    simp only [List.map_cons, List.mem_cons, not_or] at h
    simp only [mdel]
    rw [if_neg (fun e => h.1 e.symm), ih h.2]
variable {P : Program} {kt : TypeId}
omit [DecidableEq K] in
/-- what a key is found to be -/
theorem MapIs.find (h : MapIs kev vev es clock m) (KT : KeyT P kt kev) (k : K) (w : World) :
    ((Instr.findKey kt (kev k) es.toList).run P w = .ok none w ∧ k ∉ m.map Prod.fst) ∨ ∃ j e p, (Instr.findKey kt (kev k) es.toList).run P w = .ok (some (j, e.val)) w ∧ es.toList[j]? = some e ∧ e.key = kev k ∧ m[j]? = some p ∧ p.1 = k ∧ e.val = vev p.2 := by
  rcases KT.find k w es.toList h.keys with ⟨h1, h2⟩ | ⟨j, e, h1, h2, h3⟩
  · left
    refine ⟨h1, fun hk => ?_⟩
    obtain ⟨p, hp, rfl⟩ := List.mem_map.1 hk
    obtain ⟨j, hj⟩ := List.mem_iff_getElem?.1 hp
    have h4 := congrArg (·[j]?) h.enc
    simp only [List.getElem?_map, hj, Option.map_some] at h4
    cases he : es.toList[j]? with
    | none => rw [he] at h4; cases h4
    | some e =>
      rw [he] at h4
      simp only [Option.map_some, Option.some.injEq, Prod.mk.injEq] at h4
      exact h2 e (List.mem_of_getElem? he) h4.1
  · right
    obtain ⟨p, g1, g2, g3⟩ := h.at h2
    exact ⟨j, e, p, h1, h2, h3, g1, KT.inj (g2.symm.trans h3), g3⟩
end
def tmap {K V : Type} (kev : K → Value) (vev : V → Value) (β : Nat) (m : List (K × V)) : HP := fun h => ∃ es clock, MapIs kev vev es clock m ∧ blk β (.map es clock) h
theorem Own.openM {K V : Type} {kev : K → Value} {vev : V → Value} {w0 w : World} {L : List HP} (H : Own w0 w L) {i β : Nat} {m : List (K × V)} (hi : L[i]? = some (tmap kev vev β m)) :
    ∃ es clock, MapIs kev vev es clock m ∧ Own w0 w (L.set i (blk β (.map es clock))) := by
  obtain ⟨hB, h, hl, hs⟩ := H
  obtain ⟨x, y, d, rfl, ⟨es, clock, hm, hb⟩, c⟩ := starL_focus hi hs
  exact ⟨es, clock, hm, hB, _, hl, starL_unfocus hi ⟨x, y, d, rfl, hb, c⟩⟩
theorem Own.closeM {K V : Type} {kev : K → Value} {vev : V → Value} {w0 w : World} {L : List HP} (H : Own w0 w L) {i β : Nat} {es : Array MapEntry} {clock : Nat} {m : List (K × V)} (hi : L[i]? = some (blk β (.map es clock))) (hm : MapIs kev vev es clock m) :
    Own w0 w (L.set i (tmap kev vev β m)) := H.upd hi fun _ h => ⟨es, clock, hm, h⟩
theorem Own.putMap {w0 w : World} {L : List HP} (H : Own w0 w L) {i β : Nat} {es : Array MapEntry} {clock : Nat} (hi : L[i]? = some (blk β (.map es clock))) (o' : Obj) :
    Own w0 { w with heap := w.heap.setIfInBounds β o' } (L.set i (blk β o')) := by
  have hg := (H.get hi).2
  have hlt := (Array.getElem?_eq_some_iff.1 hg).1
  exact H.put hi o' rfl rfl rfl (by simp) (fun k hk _ => by simp [Array.getElem?_setIfInBounds_ne (Ne.symm hk)]) (by simp [hlt])
section
variable {K V : Type} [DecidableEq K] {kev : K → Value} {vev : V → Value} {P : Program} {kt et t : TypeId}
theorem mapUpdate_own {w0 w : World} {L : List HP} (H : Own w0 w L) {i β : Nat} {m : List (K × V)} (hu : P.underlying t = some (.map kt et)) (KT : KeyT P kt kev) (hi : L[i]? = some (tmap kev vev β m)) (k : K) (v : V) :
    ∃ w', (Instr.mapUpdate t (.map (some β)) (kev k) (vev v)).run P w = .ok () w' ∧ Own w0 w' (L.set i (tmap kev vev β (mset m k v))) := by
  obtain ⟨es, clock, hm, H1⟩ := H.openM hi
  have hil : i < L.length := (List.getElem?_eq_some_iff.1 hi).1
  have hi1 : (L.set i (blk β (.map es clock)))[i]? = some (blk β (.map es clock)) := List.getElem?_set_self hil
  have hb := (H1.get hi1).2
  rcases hm.find KT k w with ⟨h1, h2⟩ | ⟨j, e, p, h1, h2, h3, h4, h5, h6⟩
  · refine ⟨{ w with heap := w.heap.setIfInBounds β (.map (es.push ⟨kev k, vev v, clock⟩) (clock + 1)) }, ?_, ?_⟩
    rotate_left
    · have H2 := H1.putMap hi1 (.map (es.push ⟨kev k, vev v, clock⟩) (clock + 1))
      rw [List.set_set] at H2
      have H3 := H2.closeM (kev := kev) (vev := vev) (m := mset m k v) (List.getElem?_set_self hil) ?_
      · rw [List.set_set] at H3; exact H3
      · rw [mset_new k v h2]
        refine ⟨by simp [hm.enc], ?_, ?_, ?_⟩
        · rw [List.map_append, List.nodup_append]
          refine ⟨hm.nodup, by simp, ?_⟩
          intro a ha b hb' e
          simp at hb'
          subst e hb'
          exact h2 ha
        · rw [Array.toList_push, List.map_append, List.nodup_append]
          refine ⟨hm.born, by simp, ?_⟩
          intro a ha b hb' e
          simp at hb'
          subst e hb'
          obtain ⟨x, hx, rfl⟩ := List.mem_map.1 ha
          exact absurd (hm.old x hx) (Nat.lt_irrefl _)
        · intro x hx
          rw [Array.toList_push, List.mem_append] at hx
          rcases hx with hx | hx
          · exact Nat.lt_succ_of_lt (hm.old x hx)
          · simp at hx; subst hx; exact Nat.lt_succ_self _
    · simp [Instr.mapUpdate, run_underlying hu, MapKept.run_getObj_map hb, KT.check false k w, h1, MapKept.run_setObj_map _ hb, Result.andThen]
  · have hj : es[j]? = some e := by simpa using h2
    have hlist : (es.modify j (fun e' => { e' with key := kev k, val := vev v })).toList = es.toList.set j { e with key := kev k, val := vev v } := by rw [Array.toList_modify, Go.ChangeMaps.modify_eq_set _ _ _ _ h2]
    have hjl : j < es.toList.length := (List.getElem?_eq_some_iff.1 h2).1
    refine ⟨{ w with heap := w.heap.setIfInBounds β (.map (es.modify j (fun e' => { e' with key := kev k, val := vev v })) clock) }, ?_, ?_⟩
    rotate_left
    · have H2 := H1.putMap hi1 (.map (es.modify j (fun e' => { e' with key := kev k, val := vev v })) clock)
      rw [List.set_set] at H2
      have H3 := H2.closeM (kev := kev) (vev := vev) (m := mset m k v) (List.getElem?_set_self hil) ?_
      · rw [List.set_set] at H3; exact H3
      · refine ⟨?_, mset_nodup k v m hm.nodup, ?_, ?_⟩
        · rw [hlist, mset_at k v hm.nodup h4 h5, List.map_set, List.map_set, hm.enc]
        · rw [hlist, List.map_set]
          have : (es.toList.map (·.born)).set j e.born = es.toList.map (·.born) := by
            apply List.ext_getElem?
            intro q
            by_cases hq : q = j
            · subst hq; rw [List.getElem?_set_self (by simpa using hjl), List.getElem?_map, h2]; rfl
            · rw [List.getElem?_set_ne (fun h => hq h.symm)]
          simp only
          rw [this]
          exact hm.born
        · intro x hx
          rw [hlist] at hx
          rcases List.mem_or_eq_of_mem_set hx with hx | rfl
          · exact hm.old x hx
          · exact hm.old e (List.mem_of_getElem? h2)
    · simp [Instr.mapUpdate, run_underlying hu, MapKept.run_getObj_map hb, KT.check false k w, h1, hj, h3, KT.stays k w, MapKept.run_setObj_map _ hb, Result.andThen]
theorem lookup_run {w : World} {β : Nat} {es : Array MapEntry} {clock : Nat} {m : List (K × V)} {z : V} (hu : P.underlying t = some (.map kt et)) (KT : KeyT P kt kev) (hb : w.heap[β]? = some (.map es clock)) (hm : MapIs kev vev es clock m)
    (hz : ∀ w, (zeroValue et).run P w = .ok (vev z) w) (k : K) (ok : Bool) :
    (Instr.lookup t (.map (some β)) (kev k) ok).run P w = .ok (if ok then .tuple #[vev ((mget m k).getD z), .bool (mget m k).isSome] else vev ((mget m k).getD z)) w := by
  rcases hm.find KT k w with ⟨h1, h2⟩ | ⟨j, e, p, h1, h2, h3, h4, h5, h6⟩
  · rw [mget_none.2 h2]
    cases ok <;> simp [Instr.lookup, run_underlying hu, MapKept.run_getObj_map hb, KT.check _ k w, h1, hz, Result.andThen]
  · rw [mget_at hm.nodup h4 h5]
    cases ok <;> simp [Instr.lookup, run_underlying hu, MapKept.run_getObj_map hb, KT.check _ k w, h1, Result.andThen, h6]
theorem delete_own {w0 w : World} {L : List HP} (H : Own w0 w L) {i β : Nat} {m : List (K × V)} {ty kt' : TypeId} (hu : P.underlying t = some (.map kt et)) (KT : KeyT P kt kev) (hi : L[i]? = some (tmap kev vev β m)) (k : K) :
    ∃ w', (Builtin.delete_ #[t, kt'] ty #[.map (some β), kev k]).run P w = .ok (.tuple #[]) w' ∧ Own w0 w' (L.set i (tmap kev vev β (mdel m k))) := by
  obtain ⟨es, clock, hm, H1⟩ := H.openM hi
  have hil : i < L.length := (List.getElem?_eq_some_iff.1 hi).1
  have hi1 : (L.set i (blk β (.map es clock)))[i]? = some (blk β (.map es clock)) := List.getElem?_set_self hil
  have hb := (H1.get hi1).2
  rcases hm.find KT k w with ⟨h1, h2⟩ | ⟨j, e, p, h1, h2, h3, h4, h5, h6⟩
  · refine ⟨{ w with heap := w.heap.setIfInBounds β (.map es clock) }, ?_, ?_⟩
    rotate_left
    · have H2 := H1.putMap hi1 (.map es clock)
      rw [List.set_set] at H2
      have H3 := H2.closeM (kev := kev) (vev := vev) (m := mdel m k) (List.getElem?_set_self hil) (by rw [mdel_new k h2]; exact hm)
      rw [List.set_set] at H3; exact H3
    · simp [Builtin.delete_, run_underlying hu, MapKept.run_getObj_map hb, KT.check _ k w, h1, MapKept.run_setObj_map _ hb, Result.andThen]
  · have hjl : j < es.size := by have := (List.getElem?_eq_some_iff.1 h2).1; simpa using this
    refine ⟨{ w with heap := w.heap.setIfInBounds β (.map (es.eraseIdxIfInBounds j) clock) }, ?_, ?_⟩
    rotate_left
    · have H2 := H1.putMap hi1 (.map (es.eraseIdxIfInBounds j) clock)
      rw [List.set_set] at H2
      have hl : (es.eraseIdxIfInBounds j).toList = es.toList.eraseIdx j := by
        simp [Array.eraseIdxIfInBounds, hjl]
      have H3 := H2.closeM (kev := kev) (vev := vev) (m := mdel m k) (List.getElem?_set_self hil) ?_
      · rw [List.set_set] at H3; exact H3
      · refine ⟨?_, mdel_nodup k hm.nodup, ?_, ?_⟩
        · rw [hl, mdel_at k hm.nodup h4 h5, Go.ChangeMaps.map_eraseIdx, Go.ChangeMaps.map_eraseIdx, hm.enc]
        · rw [hl, Go.ChangeMaps.map_eraseIdx]
          exact hm.born.sublist (List.eraseIdx_sublist _ _)
        · intro x hx
          rw [hl] at hx
          exact hm.old x (List.mem_of_mem_eraseIdx hx)
    · simp [Builtin.delete_, run_underlying hu, MapKept.run_getObj_map hb, KT.check _ k w, h1, MapKept.run_setObj_map _ hb, Result.andThen]
end
section
variable {K V : Type} [DecidableEq K] {kev : K → Value} {vev : V → Value} {kt et t : TypeId}
variable {P : Program} {N : Sz} {ops : Array Oper} {Q : Exit → Act → World → Prop} {rest : List Oper} {fr : Fr} {w w0 : World} {L L' : List HP}
  {d : Option Tmp} {ty : TypeId} {pos : String} {af : Array Edge}
omit [DecidableEq K] in
theorem JL.makeMap (kev : K → Value) (vev : V → Value) (H : Own w0 w L) (hd : Fr.fits N d = true) (k : ∀ β w', Own w0 w' (tmap kev vev β [] :: L) → JL P N ops Q rest (fr.put d (.map (some β))) w') :
    JL P N ops Q (⟨d, .makeMap t none, ty, pos, af, none⟩ :: rest) fr w :=
  JL.val rfl hd (fun a Ha => by
    simp only [execOp, Option.map_none]
    simp [Instr.makeMap, newObj, Sem.run]) (k w.heap.size (w.alloc (.map #[] 0)) ((H.new (.map #[] 0)).closeM (i := 0) rfl (MapIs.empty 0)))
theorem JL.mapUpdate {mo x y : Operand} {β : Nat} {m : List (K × V)} (i : Nat) (H : Own w0 w L) (k : K) (v : V) (hm : fr.ev mo = some (.map (some β))) (hx : fr.ev x = some (kev k)) (hy : fr.ev y = some (vev v)) (hu : P.underlying t = some (.map kt et)) (KT : KeyT P kt kev)
    (hi : L[i]? = some (tmap kev vev β m)) (hL : setLK (tmap kev vev β (mset m k v)) i L some = some L') (kk : ∀ w', Own w0 w' L' → JL P N ops Q rest fr w') : JL P N ops Q (⟨none, .mapUpdate t mo x y, ty, pos, af, none⟩ :: rest) fr w := by
  obtain ⟨w', h1, h2⟩ := mapUpdate_own H hu KT hi k v
  have hL' := setLK_eq hL
  simp at hL'
  subst hL'
  refine JL.unit rfl rfl (fun a Ha => ?_) (kk w' h2)
  simp only [execOp, Ha.eval hm, Ha.eval hx, Ha.eval hy]
  simp [h1]
/-- m[k], of a map whose block is known -/
theorem JL.lookupB {mo x : Operand} {β : Nat} {es : Array MapEntry} {clock : Nat} {m : List (K × V)} {ok : Bool} (k : K) (z : V) (hb : w.heap[β]? = some (.map es clock)) (hM : MapIs kev vev es clock m) (hm : fr.ev mo = some (.map (some β))) (hx : fr.ev x = some (kev k))
    (hu : P.underlying t = some (.map kt et)) (KT : KeyT P kt kev) (hz : ∀ w, (zeroValue et).run P w = .ok (vev z) w) (hd : Fr.fits N d = true)
    (kk : JL P N ops Q rest (fr.put d (if ok then .tuple #[vev ((mget m k).getD z), .bool (mget m k).isSome] else vev ((mget m k).getD z))) w) : JL P N ops Q (⟨d, .lookup t mo x ok, ty, pos, af, none⟩ :: rest) fr w :=
  JL.val rfl hd (fun a Ha => by
    simp only [execOp, Ha.eval hm, Ha.eval hx]
    simp [lookup_run hu KT hb hM hz k ok]) kk
theorem JL.lookupM {mo x : Operand} {β : Nat} {m : List (K × V)} {ok : Bool} (i : Nat) (H : Own w0 w L) (k : K) (z : V) (hm : fr.ev mo = some (.map (some β))) (hx : fr.ev x = some (kev k)) (hi : L[i]? = some (tmap kev vev β m))
    (hu : P.underlying t = some (.map kt et)) (KT : KeyT P kt kev) (hz : ∀ w, (zeroValue et).run P w = .ok (vev z) w) (hd : Fr.fits N d = true)
    (kk : JL P N ops Q rest (fr.put d (if ok then .tuple #[vev ((mget m k).getD z), .bool (mget m k).isSome] else vev ((mget m k).getD z))) w) : JL P N ops Q (⟨d, .lookup t mo x ok, ty, pos, af, none⟩ :: rest) fr w := by
  obtain ⟨es, clock, hM, H1⟩ := H.openM hi
  have hb := (H1.get (List.getElem?_set_self (List.getElem?_eq_some_iff.1 hi).1)).2
  exact JL.lookupB k z hb hM hm hx hu KT hz hd kk
theorem JL.delete {mo x : Operand} {β : Nat} {kt' : TypeId} {m : List (K × V)} (i : Nat) (H : Own w0 w L) (k : K) (hm : fr.ev mo = some (.map (some β))) (hx : fr.ev x = some (kev k)) (hu : P.underlying t = some (.map kt et)) (KT : KeyT P kt kev)
    (hi : L[i]? = some (tmap kev vev β m)) (hL : setLK (tmap kev vev β (mdel m k)) i L some = some L') (hd : Fr.fits N d = true) (kk : ∀ w', Own w0 w' L' → JL P N ops Q rest (fr.put d (.tuple #[])) w') : JL P N ops Q (⟨d, .call ⟨.builtin .delete, #[mo, x], #[t, kt']⟩, ty, pos, af, none⟩ :: rest) fr w := by
  obtain ⟨w', h1, h2⟩ := delete_own (ty := ty) (kt' := kt') H hu KT hi k
  have hL' := setLK_eq hL
  simp at hL'
  subst hL'
  refine JL.val rfl hd (fun a Ha => ?_) (kk w' h2)
  simp only [execOp, resolve]
  simp [Ha.eval hm, Ha.eval hx, invoke, builtin, h1]
omit [DecidableEq K] in
theorem JL.lenM {mo : Operand} {β : Nat} {m : List (K × V)} (i : Nat) (H : Own w0 w L) (hm : fr.ev mo = some (.map (some β))) (hi : L[i]? = some (tmap kev vev β m)) (hu : P.underlying t = some (.map kt et)) (hd : Fr.fits N d = true)
    (kk : JL P N ops Q rest (fr.put d (.int .i64 m.length)) w) : JL P N ops Q (⟨d, .call ⟨.builtin .len, #[mo], #[t]⟩, ty, pos, af, none⟩ :: rest) fr w := by
  obtain ⟨es, clock, hM, H1⟩ := H.openM hi
  have hb := (H1.get (List.getElem?_set_self (List.getElem?_eq_some_iff.1 hi).1)).2
  refine JL.val rfl hd (fun a Ha => ?_) kk
  simp only [execOp, resolve]
  simp [Ha.eval hm, invoke, builtin, Builtin.len_, run_underlying hu, MapKept.run_getObj_map hb, goInt, hM.size]
/-! ### ranging over a map: the entries that are left -/
theorem JL.rangeM {mo : Operand} {β : Nat} {es : Array MapEntry} {clock : Nat} (i : Nat) (H : Own w0 w L) (hm : fr.ev mo = some (.map (some β))) (hi : L[i]? = some (blk β (.map es clock))) (hu : P.underlying t = some (.map kt et)) (hd : Fr.fits N d = true)
    (kk : ∀ r w', Own w0 w' (blk r (.mapIter (some β) clock #[] clock) :: L) → JL P N ops Q rest (fr.put d (.pointer (some ⟨r, 0, none⟩))) w') : JL P N ops Q (⟨d, .range t mo, ty, pos, af, none⟩ :: rest) fr w := by
  have hb := (H.get hi).2
  refine JL.val rfl hd (fun a Ha => ?_) (kk w.heap.size (w.alloc (.mapIter (some β) clock #[] clock)) (H.new _))
  simp only [execOp, Ha.eval hm]
  simp [run_range_map w t kt et β es clock hu hb]
theorem JL.nextM {it : Operand} {β r since c0 : Nat} {seen : Array Nat} {es : Array MapEntry} {clock : Nat} (i j : Nat) (H : Own w0 w L) (hit : fr.ev it = some (.pointer (some ⟨r, 0, none⟩))) (hi : L[i]? = some (blk r (.mapIter (some β) since seen c0)))
    (hj : L[j]? = some (blk β (.map es clock))) (hold : ∀ x ∈ es.toList, x.born < since) (hsc : since ≤ c0) (hd : Fr.fits N d = true)
    (kend : (leftOf es seen).size = 0 → JL P N ops Q rest (fr.put d (.tuple #[.bool false])) w)
    (kstep : ∀ e w', e ∈ (leftOf es seen).toList → Own w0 w' (L.set i (blk r (.mapIter (some β) since (seen.push e.born) clock))) → JL P N ops Q rest (fr.put d (.tuple #[.bool true, e.key, e.val])) w') :
    JL P N ops Q (⟨d, .next it false, ty, pos, af, none⟩ :: rest) fr w := by
  have hr := (H.get hi).2
  have hb := (H.get hj).2
  rcases run_next_at (P := P) w ty r β since c0 seen es clock hr hb hold hsc with ⟨h0, hrun⟩ | ⟨e, he, w1, hw1, hrun⟩
  · exact JL.val rfl hd (fun a Ha => by simp only [execOp, Ha.eval hit]; simp [hrun]) (kend h0)
  · have H1 : Own w0 w1 L := by
      rcases hw1 with rfl | rfl
      · exact H
      · exact H.drew
    have hr1 := (H1.get hi).2
    have hlt := (Array.getElem?_eq_some_iff.1 hr1).1
    have H2 : Own w0 (setBlock w1 r (.mapIter (some β) since (seen.push e.born) clock)) (L.set i (blk r (.mapIter (some β) since (seen.push e.born) clock))) :=
      H1.put hi _ rfl rfl rfl (by simp [setBlock]) (fun k hk _ => by simp [setBlock, Array.getElem?_setIfInBounds_ne (Ne.symm hk)]) (by simp [setBlock, hlt])
    exact JL.val rfl hd (fun a Ha => by simp only [execOp, Ha.eval hit]; simp [hrun]) (kstep e _ he H2)
theorem JL.entryM {it : Operand} {β r since : Nat} {seen : Array Nat} {es : Array MapEntry} {clock : Nat} {e : MapEntry} (i j : Nat) (H : Own w0 w L) (hit : fr.ev it = some (.pointer (some ⟨r, 0, none⟩))) (hi : L[i]? = some (blk r (.mapIter (some β) since (seen.push e.born) clock)))
    (hj : L[j]? = some (blk β (.map es clock))) (he : e ∈ es.toList) (hn : (es.toList.map (·.born)).Nodup) (hd : Fr.fits N d = true) (kk : JL P N ops Q rest (fr.put d (.tuple #[e.key, e.val])) w) : JL P N ops Q (⟨d, .entry it, ty, pos, af, none⟩ :: rest) fr w :=
  JL.val rfl hd (fun a Ha => by
    simp only [execOp, Ha.eval hit]
    simp [run_entry_at w r β since seen es clock e (H.get hi).2 (H.get hj).2 he hn]) kk
end
/-- the pairs that an iterator has not handed out -/
def ItIs {K V : Type} (kev : K → Value) (vev : V → Value) (es : Array MapEntry) (seen : Array Nat) (l : List (K × V)) : Prop := (leftOf es seen).toList.map (fun e => (e.key, e.val)) = l.map (fun p => (kev p.1, vev p.2))
section
variable {K V : Type} {kev : K → Value} {vev : V → Value} {es : Array MapEntry} {clock : Nat} {m l : List (K × V)} {seen : Array Nat}
theorem ItIs.start (h : MapIs kev vev es clock m) : ItIs kev vev es #[] m := by
  unfold ItIs leftOf
  rw [show es.filter (fun e => !(#[] : Array Nat).contains e.born) = es by simp]
  exact h.enc
theorem ItIs.ended (h : ItIs kev vev es seen l) (h0 : (leftOf es seen).size = 0) : l = [] := by
  have := congrArg List.length h
  simp only [List.length_map, Array.length_toList, h0] at this
  exact List.eq_nil_of_length_eq_zero this.symm
theorem ItIs.step (hM : MapIs kev vev es clock m) (h : ItIs kev vev es seen l) {e : MapEntry} (he : e ∈ (leftOf es seen).toList) :
    e ∈ es.toList ∧ ∃ a p b, l = a ++ p :: b ∧ e.key = kev p.1 ∧ e.val = vev p.2 ∧ ItIs kev vev es (seen.push e.born) (a ++ b) := by
  have hes : e ∈ es.toList := by
    unfold leftOf at he
    rw [Array.toList_filter] at he
    exact (List.mem_filter.1 he).1
  refine ⟨hes, ?_⟩
  obtain ⟨s, t, hst⟩ := List.append_of_mem he
  have h' := h
  unfold ItIs at h'
  rw [hst, List.map_append, List.map_cons] at h'
  obtain ⟨a, q, rfl, ha, hq⟩ := List.map_eq_append_iff.1 h'.symm
  obtain ⟨p, b, rfl, hp, hb⟩ := List.map_eq_cons_iff.1 hq
  simp only [Prod.mk.injEq] at hp
  refine ⟨a, p, b, rfl, hp.1.symm, hp.2.symm, ?_⟩
  unfold ItIs
  have hborn : ((leftOf es seen).toList.map (·.born)).Nodup := by
    unfold leftOf
    rw [Array.toList_filter]
    exact hM.born.sublist (List.filter_sublist.map _)
  have hpush : (leftOf es (seen.push e.born)).toList = (leftOf es seen).toList.filter (fun x => x.born != e.born) := by
    unfold leftOf
    rw [Array.toList_filter, Array.toList_filter, List.filter_filter]
    congr 1
    funext x
    simp only [Array.contains_push]
    by_cases hx : x.born = e.born
    · simp [hx]
    · have h1 : (x.born == e.born) = false := by simpa using hx
      simp [bne, h1]
  rw [hpush, hst]
  rw [hst, List.map_append, List.map_cons, List.nodup_append] at hborn
  obtain ⟨_, h2, h3⟩ := hborn
  rw [List.nodup_cons] at h2
  have f1 : s.filter (fun x => x.born != e.born) = s := List.filter_eq_self.2 fun x hx => by
    have := h3 x.born (List.mem_map.2 ⟨x, hx, rfl⟩) e.born (by simp)
    simpa using this
  have f2 : t.filter (fun x => x.born != e.born) = t := List.filter_eq_self.2 fun x hx => by
    have : x.born ≠ e.born := fun he => h2.1 (by rw [← he]; exact List.mem_map.2 ⟨x, hx, rfl⟩)
    simpa using this
  rw [List.filter_append, List.filter_cons, f1, f2]
  simp [ha, hb]
end
end Go.J
