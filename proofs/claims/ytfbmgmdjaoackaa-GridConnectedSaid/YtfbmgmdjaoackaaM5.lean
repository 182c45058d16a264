/-
  Lemmas for the statements of this seat; no statement is proved here. No condition.
-/
import Derived.Test.YtfbmgmdjaoackaaM4
import Derived.MapKept
import Derived.Maps.RangeRun
import Derived.RangeFuncSeq
namespace Go.J
set_option linter.unusedSimpArgs false
set_option linter.unusedVariables false
open Go.RowKit
open Go.ChangeMaps (setBlock)
/-! ## maps: as lists of pairs -/
section
variable {K V : Type} [DecidableEq K]
def mget : List (K × V) → K → Option V
  | [], _ => none
  | p :: r, k => if p.1 = k then some p.2 else mget r k
def mset : List (K × V) → K → V → List (K × V)
  | [], k, v => [(k, v)]
  | p :: r, k, v => if p.1 = k then (k, v) :: r else p :: mset r k v
def mdel : List (K × V) → K → List (K × V)
  | [], _ => []
  | p :: r, k => if p.1 = k then r else p :: mdel r k
theorem mget_mset (k : K) (v : V) (k' : K) : ∀ m : List (K × V), mget (mset m k v) k' = if k = k' then some v else mget m k' := by
  intro m
  induction m with
  | nil => simp only [mset, mget]
  | cons p m ih =>
    simp only [mset]
    split
    · rename_i h
      simp only [mget]
      by_cases hk : k = k'
      · simp [hk]
      · rw [if_neg hk, if_neg hk, if_neg (by rw [h]; exact hk)]
    · rename_i h
      simp only [mget, ih]
      by_cases hk : k = k'
      · subst hk; simp [h]
      · simp only [if_neg hk]
theorem mset_keys (k : K) (v : V) : ∀ m : List (K × V), ∀ x, x ∈ (mset m k v).map Prod.fst ↔ x = k ∨ x ∈ m.map Prod.fst := by
  intro m
  induction m with
  | nil => intro x; simp [mset]
  | cons p m ih =>
    intro x
    simp only [mset]
    split
    · rename_i h
      simp only [List.map_cons, List.mem_cons, h]
      constructor
      · rintro (h | h)
        · exact .inl h
        · exact .inr (.inr h)
      · rintro (h | h | h)
        · exact .inl h
        · exact .inl h
        · exact .inr h
    · simp only [List.map_cons, List.mem_cons, ih]
      constructor
      · rintro (h | h | h)
        · exact .inr (.inl h)
        · exact .inl h
        · exact .inr (.inr h)
      · rintro (h | h | h)
        · exact .inr (.inl h)
        · exact .inl h
        · exact .inr (.inr h)
theorem mset_nodup (k : K) (v : V) : ∀ m : List (K × V), (m.map Prod.fst).Nodup → ((mset m k v).map Prod.fst).Nodup := by
  intro m
  induction m with
  | nil => intro _; simp [mset]
  | cons p m ih =>
    intro h
    simp only [List.map_cons, List.nodup_cons] at h
    simp only [mset]
    split
    · rename_i hp
      simp only [List.map_cons, List.nodup_cons]
      exact ⟨hp ▸ h.1, h.2⟩
    · rename_i hp
      simp only [List.map_cons, List.nodup_cons]
      refine ⟨fun hm => ?_, ih h.2⟩
      rcases (mset_keys k v m p.1).1 hm with h' | h'
      · exact hp h'
      · exact h.1 h'
theorem mget_none {k : K} : ∀ {m : List (K × V)}, mget m k = none ↔ k ∉ m.map Prod.fst := by
  intro m
  induction m with
  | nil => simp [mget]
  | cons p m ih =>
    simp only [mget]
    split
    · rename_i h; simp [h]
    · rename_i h; rw [ih]; simp only [List.map_cons, List.mem_cons, not_or]; exact ⟨fun h' => ⟨fun e => h e.symm, h'⟩, fun h' => h'.2⟩
theorem mget_mem {k : K} {v : V} : ∀ {m : List (K × V)}, mget m k = some v → (k, v) ∈ m := by
  intro m
  induction m with
  | nil => intro h; cases h
  | cons p m ih =>
    intro h
    simp only [mget] at h
    split at h
    · rename_i hp; cases h; rw [← hp]; exact List.mem_cons_self
    · exact List.mem_cons_of_mem _ (ih h)
theorem mget_of_mem {k : K} {v : V} : ∀ {m : List (K × V)}, (m.map Prod.fst).Nodup → (k, v) ∈ m → mget m k = some v := by
  intro m
  induction m with
  | nil => intro _ h; cases h
  | cons p m ih =>
    intro hn h
    simp only [List.map_cons, List.nodup_cons] at hn
    simp only [mget]
    cases h with
    | head => simp
    | tail _ h =>
      rw [if_neg (fun hp => hn.1 (by rw [hp]; exact List.mem_map.2 ⟨_, h, rfl⟩))]
      exact ih hn.2 h
theorem mdel_sub (k : K) : ∀ {m : List (K × V)}, (mdel m k).Sublist m := by
  intro m
  induction m with
  | nil => exact List.Sublist.refl _
  | cons p m ih =>
    simp only [mdel]
    split
    · exact List.sublist_cons_self _ _
    · exact ih.cons_cons _
theorem mdel_nodup (k : K) {m : List (K × V)} (h : (m.map Prod.fst).Nodup) : ((mdel m k).map Prod.fst).Nodup := h.sublist ((mdel_sub k).map _)
theorem mget_mdel (k k' : K) : ∀ {m : List (K × V)}, (m.map Prod.fst).Nodup → mget (mdel m k) k' = if k = k' then none else mget m k' := by
  intro m
  induction m with
  | nil => intro _; simp [mdel, mget]
  | cons p m ih =>
    intro hn
    simp only [List.map_cons, List.nodup_cons] at hn
    simp only [mdel]
    split
    · rename_i hp
      simp only [mget]
      by_cases hk : k = k'
      · subst hk
        rw [if_pos rfl, mget_none, ← hp]
        exact hn.1
      · rw [if_neg hk, if_neg (by rw [hp]; exact hk)]
    · rename_i hp
      simp only [mget, ih hn.2]
      by_cases hk : k = k'
      · subst hk; simp [hp]
      · simp only [if_neg hk]
end
/-- the keys of a map's type, as they are known -/
structure KeyT (P : Program) (kt : TypeId) {K : Type} (kev : K → Value) : Prop where
  inj : ∀ {a b : K}, kev a = kev b → a = b
  check : ∀ (em : Bool) (k : K) (w : World), (Instr.checkKey em 10000 kt (kev k)).run P w = .ok () w
  find : ∀ (k : K) (w : World) (es : List MapEntry), (∀ e ∈ es, ∃ k' : K, e.key = kev k') →
    ((Instr.findKey kt (kev k) es).run P w = .ok none w ∧ ∀ e ∈ es, e.key ≠ kev k) ∨ ∃ j e, (Instr.findKey kt (kev k) es).run P w = .ok (some (j, e.val)) w ∧ es[j]? = some e ∧ e.key = kev k
  stays : ∀ (k : K) (w : World), (Instr.keyThatStays (kev k) (kev k)).run P w = .ok (kev k) w
theorem KeyT.plain {P : Program} {kt : TypeId} {K : Type} {kev : K → Value} {d : TypeDesc} (hd : P.underlying kt = some d) (hk : ∀ k, MapKept.IsKey d (kev k)) (inj : ∀ {a b : K}, kev a = kev b → a = b) : KeyT P kt kev := by
  refine ⟨inj, fun em k w => MapKept.run_checkKey hd (hk k) em 9999, fun k w es hes => ?_, fun k w => MapKept.run_keyThatStays (hk k)⟩
  rcases MapKept.findNow_spec (hk k) es 0 (fun x hx => by obtain ⟨k', h⟩ := hes x hx; rw [h]; exact hk k') with ⟨h1, h2⟩ | ⟨j, e, h1, h2, h3⟩
  · exact .inl ⟨MapKept.run_findKey hd h1, h2⟩
  · exact .inr ⟨j, e, by simpa using MapKept.run_findKey hd h1, h2, h3⟩
theorem findAsking_run {P : Program} {kt : TypeId} {K : Type} [DecidableEq K] {kev : K → Value} (heq : ∀ (a b : K) (w : World), (Op.equal kt (kev a) (kev b)).run P w = .ok (decide (a = b)) w) (k : K) (w : World) :
    ∀ (es : List MapEntry) (i : Nat), (∀ e ∈ es, ∃ k' : K, e.key = kev k') → ((Instr.findAsking kt (kev k) es i).run P w = .ok none w ∧ ∀ e ∈ es, e.key ≠ kev k ∨ False) ∨
      ∃ j e, (Instr.findAsking kt (kev k) es i).run P w = .ok (some (i + j, e.val)) w ∧ es[j]? = some e ∧ ∃ k', e.key = kev k' ∧ k' = k := by
  intro es
  induction es with
  | nil => intro i _; exact .inl ⟨by simp [Instr.findAsking], fun e he => by cases he⟩
  | cons e es ih =>
    intro i h
    obtain ⟨k', hk'⟩ := h e (by simp)
    simp only [Instr.findAsking]
    rw [Sem.run_bind, hk', heq k k' w]
    simp only [Result.andThen]
    by_cases hkk : k = k'
    · right
      refine ⟨0, e, ?_, rfl, k', hk', hkk.symm⟩
      simp [hkk]
    · rcases ih (i + 1) (fun x hx => h x (List.mem_cons_of_mem _ hx)) with ⟨h1, h2⟩ | ⟨j, x, h1, h2, h3⟩
      · by_cases hkv : kev k' = kev k
        · exfalso
          have e1 := heq k k' w
          rw [hkv, heq k k w] at e1
          simp [hkk] at e1
        · left
          refine ⟨by simpa [hkk] using h1, fun x hx => ?_⟩
          cases hx with
          | head => rw [hk']; exact .inl hkv
          | tail _ hx => exact h2 x hx
      · right
        refine ⟨j + 1, x, ?_, by simpa using h2, h3⟩
        rw [show i + (j + 1) = i + 1 + j by omega]
        simpa [hkk] using h1
theorem KeyT.agg {P : Program} {kt : TypeId} {K : Type} [DecidableEq K] {kev : K → Value} {fs : Array Field} (hd : P.underlying kt = some (.struct fs)) (inj : ∀ {a b : K}, kev a = kev b → a = b)
    (check : ∀ (em : Bool) (k : K) (w : World), (Instr.checkKey em 10000 kt (kev k)).run P w = .ok () w) (heq : ∀ (a b : K) (w : World), (Op.equal kt (kev a) (kev b)).run P w = .ok (decide (a = b)) w)
    (bits : ∀ k, Instr.sameBits 10000 (kev k) (kev k) = true) : KeyT P kt kev := by
  refine ⟨inj, check, fun k w es hes => ?_, fun k w => by simp [Instr.keyThatStays, bits k]⟩
  have hrun : (Instr.findKey kt (kev k) es).run P w = (Instr.findAsking kt (kev k) es).run P w := by
    unfold Instr.findKey
    rw [Sem.run_bind, run_underlying hd]
    simp only [Result.andThen]
    cases es with
    | nil => simp [Instr.findNow, Instr.findAsking]
    | cons e es => simp [Instr.findNow, Instr.sameNow]
  rw [hrun]
  rcases findAsking_run heq k w es 0 hes with ⟨h1, h2⟩ | ⟨j, e, h1, h2, k', h3, rfl⟩
  · exact .inl ⟨h1, fun e he => (h2 e he).resolve_right id⟩
  · exact .inr ⟨j, e, by simpa using h1, h2, h3⟩
/-- a map's block holds the pairs m -/
structure MapIs {K V : Type} (kev : K → Value) (vev : V → Value) (es : Array MapEntry) (clock : Nat) (m : List (K × V)) : Prop where
  enc : es.toList.map (fun e => (e.key, e.val)) = m.map (fun p => (kev p.1, vev p.2))
  nodup : (m.map Prod.fst).Nodup
  born : (es.toList.map (·.born)).Nodup
  old : ∀ e ∈ es.toList, e.born < clock
section
variable {K V : Type} {kev : K → Value} {vev : V → Value} {es : Array MapEntry} {clock : Nat} {m : List (K × V)}
theorem MapIs.empty (clock : Nat) : MapIs kev vev #[] clock [] := ⟨rfl, by simp, by simp, by simp⟩
theorem MapIs.size (h : MapIs kev vev es clock m) : es.size = m.length := by
  have := congrArg List.length h.enc
  simpa using this
theorem MapIs.at (h : MapIs kev vev es clock m) {j : Nat} {e : MapEntry} (he : es.toList[j]? = some e) : ∃ p, m[j]? = some p ∧ e.key = kev p.1 ∧ e.val = vev p.2 := by
  have h1 := congrArg (·[j]?) h.enc
  simp only [List.getElem?_map, he, Option.map_some] at h1
  cases hm : m[j]? with
  | none => rw [hm] at h1; cases h1
  | some p =>
    rw [hm] at h1
    simp only [Option.map_some, Option.some.injEq, Prod.mk.injEq] at h1
    exact ⟨p, rfl, h1.1, h1.2⟩
theorem MapIs.keys (h : MapIs kev vev es clock m) : ∀ e ∈ es.toList, ∃ k' : K, e.key = kev k' := by
  intro e he
  obtain ⟨j, hj⟩ := List.mem_iff_getElem?.1 he
  obtain ⟨p, _, h1, _⟩ := h.at hj
  exact ⟨p.1, h1⟩
variable [DecidableEq K]
theorem mget_at {k : K} : ∀ {m : List (K × V)} {j : Nat} {p : K × V}, (m.map Prod.fst).Nodup → m[j]? = some p → p.1 = k → mget m k = some p.2 := by
  intro m j p hn hj hp
  exact mget_of_mem hn (by rw [← hp]; exact List.mem_of_getElem? hj)
theorem mset_at (k : K) (v : V) : ∀ {m : List (K × V)} {j : Nat} {p : K × V}, (m.map Prod.fst).Nodup → m[j]? = some p → p.1 = k → mset m k v = m.set j (k, v) := by
  intro m
  induction m with
  | nil => intro j p _ h; simp at h
  | cons q m ih =>
    intro j p hn hj hp
    simp only [List.map_cons, List.nodup_cons] at hn
    cases j with
    | zero => simp at hj; subst hj; simp [mset, hp]
    | succ j =>
      simp at hj
      simp only [mset, List.set_cons_succ]
      rw [if_neg (fun h => hn.1 (by rw [h, ← hp]; exact List.mem_map.2 ⟨p, List.mem_of_getElem? hj, rfl⟩)), ih hn.2 hj hp]
theorem mset_new (k : K) (v : V) : ∀ {m : List (K × V)}, k ∉ m.map Prod.fst → mset m k v = m ++ [(k, v)] := by
  intro m
  induction m with
  | nil => intro _; rfl
  | cons q m ih =>
    intro h
    simp only [List.map_cons, List.mem_cons, not_or] at h
    simp only [mset, List.cons_append]
    rw [if_neg (fun e => h.1 e.symm), ih h.2]
theorem mdel_at (k : K) : ∀ {m : List (K × V)} {j : Nat} {p : K × V}, (m.map Prod.fst).Nodup → m[j]? = some p → p.1 = k → mdel m k = m.eraseIdx j := by
  intro m
  induction m with
  | nil => intro j p _ h; simp at h
  | cons q m ih =>
    intro j p hn hj hp
    simp only [List.map_cons, List.nodup_cons] at hn
    cases j with
    | zero => simp at hj; subst hj; simp [mdel, hp]
    | succ j =>
      simp at hj
      simp only [mdel, List.eraseIdx_cons_succ]
      rw [if_neg (fun h => hn.1 (by rw [h, ← hp]; exact List.mem_map.2 ⟨p, List.mem_of_getElem? hj, rfl⟩)), ih hn.2 hj hp]
theorem mdel_new (k : K) : ∀ {m : List (K × V)}, k ∉ m.map Prod.fst → mdel m k = m := by
  intro m
  induction m with
  | nil => intro _; rfl
  | cons q m ih =>
    intro h
    simp only [List.map_cons, List.mem_cons, not_or] at h
    simp only [mdel]
    rw [if_neg (fun e => h.1 e.symm), ih h.2]
variable {P : Program} {kt : TypeId}
omit [DecidableEq K] in
/-- what a key is found to be -/
theorem MapIs.find (h : MapIs kev vev es clock m) (KT : KeyT P kt kev) (k : K) (w : World) :
    ((Instr.findKey kt (kev k) es.toList).run P w = .ok none w ∧ k ∉ m.map Prod.fst) ∨ ∃ j e p, (Instr.findKey kt (kev k) es.toList).run P w = .ok (some (j, e.val)) w ∧ es.toList[j]? = some e ∧ e.key = kev k ∧ m[j]? = some p ∧ p.1 = k ∧ e.val = vev p.2 := by
  rcases KT.find k w es.toList h.keys with ⟨h1, h2⟩ | ⟨j, e, h1, h2, h3⟩
  · left
    refine ⟨h1, fun hk => ?_⟩
    obtain ⟨p, hp, rfl⟩ := List.mem_map.1 hk
    obtain ⟨j, hj⟩ := List.mem_iff_getElem?.1 hp
    have h4 := congrArg (·[j]?) h.enc
    simp only [List.getElem?_map, hj, Option.map_some] at h4
    cases he : es.toList[j]? with
    | none => rw [he] at h4; cases h4
    | some e =>
      rw [he] at h4
      simp only [Option.map_some, Option.some.injEq, Prod.mk.injEq] at h4
      exact h2 e (List.mem_of_getElem? he) h4.1
  · right
    obtain ⟨p, g1, g2, g3⟩ := h.at h2
    exact ⟨j, e, p, h1, h2, h3, g1, KT.inj (g2.symm.trans h3), g3⟩
end
def tmap {K V : Type} (kev : K → Value) (vev : V → Value) (β : Nat) (m : List (K × V)) : HP := fun h => ∃ es clock, MapIs kev vev es clock m ∧ blk β (.map es clock) h
theorem Own.openM {K V : Type} {kev : K → Value} {vev : V → Value} {w0 w : World} {L : List HP} (H : Own w0 w L) {i β : Nat} {m : List (K × V)} (hi : L[i]? = some (tmap kev vev β m)) :
    ∃ es clock, MapIs kev vev es clock m ∧ Own w0 w (L.set i (blk β (.map es clock))) := by
  obtain ⟨hB, h, hl, hs⟩ := H
  obtain ⟨x, y, d, rfl, ⟨es, clock, hm, hb⟩, c⟩ := starL_focus hi hs
  exact ⟨es, clock, hm, hB, _, hl, starL_unfocus hi ⟨x, y, d, rfl, hb, c⟩⟩
theorem Own.closeM {K V : Type} {kev : K → Value} {vev : V → Value} {w0 w : World} {L : List HP} (H : Own w0 w L) {i β : Nat} {es : Array MapEntry} {clock : Nat} {m : List (K × V)} (hi : L[i]? = some (blk β (.map es clock))) (hm : MapIs kev vev es clock m) :
    Own w0 w (L.set i (tmap kev vev β m)) := H.upd hi fun _ h => ⟨es, clock, hm, h⟩
theorem Own.putMap {w0 w : World} {L : List HP} (H : Own w0 w L) {i β : Nat} {es : Array MapEntry} {clock : Nat} (hi : L[i]? = some (blk β (.map es clock))) (o' : Obj) :
    Own w0 { w with heap := w.heap.setIfInBounds β o' } (L.set i (blk β o')) := by
  have hg := (H.get hi).2
  have hlt := (Array.getElem?_eq_some_iff.1 hg).1
  exact H.put hi o' rfl rfl rfl (by simp) (fun k hk _ => by simp [Array.getElem?_setIfInBounds_ne (Ne.symm hk)]) (by simp [hlt])
section
variable {K V : Type} [DecidableEq K] {kev : K → Value} {vev : V → Value} {P : Program} {kt et t : TypeId}
theorem mapUpdate_own {w0 w : World} {L : List HP} (H : Own w0 w L) {i β : Nat} {m : List (K × V)} (hu : P.underlying t = some (.map kt et)) (KT : KeyT P kt kev) (hi : L[i]? = some (tmap kev vev β m)) (k : K) (v : V) :
    ∃ w', (Instr.mapUpdate t (.map (some β)) (kev k) (vev v)).run P w = .ok () w' ∧ Own w0 w' (L.set i (tmap kev vev β (mset m k v))) := by
  obtain ⟨es, clock, hm, H1⟩ := H.openM hi
  have hil : i < L.length := (List.getElem?_eq_some_iff.1 hi).1
  have hi1 : (L.set i (blk β (.map es clock)))[i]? = some (blk β (.map es clock)) := List.getElem?_set_self hil
  have hb := (H1.get hi1).2
  rcases hm.find KT k w with ⟨h1, h2⟩ | ⟨j, e, p, h1, h2, h3, h4, h5, h6⟩
  · refine ⟨{ w with heap := w.heap.setIfInBounds β (.map (es.push ⟨kev k, vev v, clock⟩) (clock + 1)) }, ?_, ?_⟩
    rotate_left
    · have H2 := H1.putMap hi1 (.map (es.push ⟨kev k, vev v, clock⟩) (clock + 1))
      rw [List.set_set] at H2
      have H3 := H2.closeM (kev := kev) (vev := vev) (m := mset m k v) (List.getElem?_set_self hil) ?_
      · rw [List.set_set] at H3; exact H3
      · rw [mset_new k v h2]
        refine ⟨by simp [hm.enc], ?_, ?_, ?_⟩
        · rw [List.map_append, List.nodup_append]
          refine ⟨hm.nodup, by simp, ?_⟩
          intro a ha b hb' e
          simp at hb'
          subst e hb'
          exact h2 ha
        · rw [Array.toList_push, List.map_append, List.nodup_append]
          refine ⟨hm.born, by simp, ?_⟩
          intro a ha b hb' e
          simp at hb'
          subst e hb'
          obtain ⟨x, hx, rfl⟩ := List.mem_map.1 ha
          exact absurd (hm.old x hx) (Nat.lt_irrefl _)
        · intro x hx
          rw [Array.toList_push, List.mem_append] at hx
          rcases hx with hx | hx
          · exact Nat.lt_succ_of_lt (hm.old x hx)
          · simp at hx; subst hx; exact Nat.lt_succ_self _
    · simp [Instr.mapUpdate, run_underlying hu, MapKept.run_getObj_map hb, KT.check false k w, h1, MapKept.run_setObj_map _ hb, Result.andThen]
  · have hj : es[j]? = some e := by simpa using h2
    have hlist : (es.modify j (fun e' => { e' with key := kev k, val := vev v })).toList = es.toList.set j { e with key := kev k, val := vev v } := by rw [Array.toList_modify, Go.ChangeMaps.modify_eq_set _ _ _ _ h2]
    have hjl : j < es.toList.length := (List.getElem?_eq_some_iff.1 h2).1
    refine ⟨{ w with heap := w.heap.setIfInBounds β (.map (es.modify j (fun e' => { e' with key := kev k, val := vev v })) clock) }, ?_, ?_⟩
    rotate_left
    · have H2 := H1.putMap hi1 (.map (es.modify j (fun e' => { e' with key := kev k, val := vev v })) clock)
      rw [List.set_set] at H2
      have H3 := H2.closeM (kev := kev) (vev := vev) (m := mset m k v) (List.getElem?_set_self hil) ?_
      · rw [List.set_set] at H3; exact H3
      · refine ⟨?_, mset_nodup k v m hm.nodup, ?_, ?_⟩
        · rw [hlist, mset_at k v hm.nodup h4 h5, List.map_set, List.map_set, hm.enc]
        · rw [hlist, List.map_set]
          have : (es.toList.map (·.born)).set j e.born = es.toList.map (·.born) := by
            apply List.ext_getElem?
            intro q
            by_cases hq : q = j
            · subst hq; rw [List.getElem?_set_self (by simpa using hjl), List.getElem?_map, h2]; rfl
            · rw [List.getElem?_set_ne (fun h => hq h.symm)]
          simp only
          rw [this]
          exact hm.born
        · intro x hx
          rw [hlist] at hx
          rcases List.mem_or_eq_of_mem_set hx with hx | rfl
          · exact hm.old x hx
          · exact hm.old e (List.mem_of_getElem? h2)
    · simp [Instr.mapUpdate, run_underlying hu, MapKept.run_getObj_map hb, KT.check false k w, h1, hj, h3, KT.stays k w, MapKept.run_setObj_map _ hb, Result.andThen]
theorem lookup_run {w : World} {β : Nat} {es : Array MapEntry} {clock : Nat} {m : List (K × V)} {z : V} (hu : P.underlying t = some (.map kt et)) (KT : KeyT P kt kev) (hb : w.heap[β]? = some (.map es clock)) (hm : MapIs kev vev es clock m)
    (hz : ∀ w, (zeroValue et).run P w = .ok (vev z) w) (k : K) (ok : Bool) :
    (Instr.lookup t (.map (some β)) (kev k) ok).run P w = .ok (if ok then .tuple #[vev ((mget m k).getD z), .bool (mget m k).isSome] else vev ((mget m k).getD z)) w := by
  rcases hm.find KT k w with ⟨h1, h2⟩ | ⟨j, e, p, h1, h2, h3, h4, h5, h6⟩
  · rw [mget_none.2 h2]
    cases ok <;> simp [Instr.lookup, run_underlying hu, MapKept.run_getObj_map hb, KT.check _ k w, h1, hz, Result.andThen]
  · rw [mget_at hm.nodup h4 h5]
    cases ok <;> simp [Instr.lookup, run_underlying hu, MapKept.run_getObj_map hb, KT.check _ k w, h1, Result.andThen, h6]
theorem delete_own {w0 w : World} {L : List HP} (H : Own w0 w L) {i β : Nat} {m : List (K × V)} {ty kt' : TypeId} (hu : P.underlying t = some (.map kt et)) (KT : KeyT P kt kev) (hi : L[i]? = some (tmap kev vev β m)) (k : K) :
    ∃ w', (Builtin.delete_ #[t, kt'] ty #[.map (some β), kev k]).run P w = .ok (.tuple #[]) w' ∧ Own w0 w' (L.set i (tmap kev vev β (mdel m k))) := by
  obtain ⟨es, clock, hm, H1⟩ := H.openM hi
  have hil : i < L.length := (List.getElem?_eq_some_iff.1 hi).1
  have hi1 : (L.set i (blk β (.map es clock)))[i]? = some (blk β (.map es clock)) := List.getElem?_set_self hil
  have hb := (H1.get hi1).2
  rcases hm.find KT k w with ⟨h1, h2⟩ | ⟨j, e, p, h1, h2, h3, h4, h5, h6⟩
  · refine ⟨{ w with heap := w.heap.setIfInBounds β (.map es clock) }, ?_, ?_⟩
    rotate_left
    · have H2 := H1.putMap hi1 (.map es clock)
      rw [List.set_set] at H2
      have H3 := H2.closeM (kev := kev) (vev := vev) (m := mdel m k) (List.getElem?_set_self hil) (by rw [mdel_new k h2]; exact hm)
      rw [List.set_set] at H3; exact H3
    · simp [Builtin.delete_, run_underlying hu, MapKept.run_getObj_map hb, KT.check _ k w, h1, MapKept.run_setObj_map _ hb, Result.andThen]
  · have hjl : j < es.size := by have := (List.getElem?_eq_some_iff.1 h2).1; simpa using this
    refine ⟨{ w with heap := w.heap.setIfInBounds β (.map (es.eraseIdxIfInBounds j) clock) }, ?_, ?_⟩
    rotate_left
    · have H2 := H1.putMap hi1 (.map (es.eraseIdxIfInBounds j) clock)
      rw [List.set_set] at H2
      have hl : (es.eraseIdxIfInBounds j).toList = es.toList.eraseIdx j := by
        simp [Array.eraseIdxIfInBounds, hjl]
      have H3 := H2.closeM (kev := kev) (vev := vev) (m := mdel m k) (List.getElem?_set_self hil) ?_
      · rw [List.set_set] at H3; exact H3
      · refine ⟨?_, mdel_nodup k hm.nodup, ?_, ?_⟩
        · rw [hl, mdel_at k hm.nodup h4 h5, Go.ChangeMaps.map_eraseIdx, Go.ChangeMaps.map_eraseIdx, hm.enc]
        · rw [hl, Go.ChangeMaps.map_eraseIdx]
          exact hm.born.sublist (List.eraseIdx_sublist _ _)
        · intro x hx
          rw [hl] at hx
          exact hm.old x (List.mem_of_mem_eraseIdx hx)
    · simp [Builtin.delete_, run_underlying hu, MapKept.run_getObj_map hb, KT.check _ k w, h1, MapKept.run_setObj_map _ hb, Result.andThen]
end
section
variable {K V : Type} [DecidableEq K] {kev : K → Value} {vev : V → Value} {kt et t : TypeId}
variable {P : Program} {N : Sz} {ops : Array Oper} {Q : Exit → Act → World → Prop} {rest : List Oper} {fr : Fr} {w w0 : World} {L L' : List HP}
  {d : Option Tmp} {ty : TypeId} {pos : String} {af : Array Edge}
omit [DecidableEq K] in
theorem JL.makeMap (kev : K → Value) (vev : V → Value) (H : Own w0 w L) (hd : Fr.fits N d = true) (k : ∀ β w', Own w0 w' (tmap kev vev β [] :: L) → JL P N ops Q rest (fr.put d (.map (some β))) w') :
    JL P N ops Q (⟨d, .makeMap t none, ty, pos, af, none⟩ :: rest) fr w :=
  JL.val rfl hd (fun a Ha => by
    simp only [execOp, Option.map_none]
    simp [Instr.makeMap, newObj, Sem.run]) (k w.heap.size (w.alloc (.map #[] 0)) ((H.new (.map #[] 0)).closeM (i := 0) rfl (MapIs.empty 0)))
theorem JL.mapUpdate {mo x y : Operand} {β : Nat} {m : List (K × V)} (i : Nat) (H : Own w0 w L) (k : K) (v : V) (hm : fr.ev mo = some (.map (some β))) (hx : fr.ev x = some (kev k)) (hy : fr.ev y = some (vev v)) (hu : P.underlying t = some (.map kt et)) (KT : KeyT P kt kev)
    (hi : L[i]? = some (tmap kev vev β m)) (hL : setLK (tmap kev vev β (mset m k v)) i L some = some L') (kk : ∀ w', Own w0 w' L' → JL P N ops Q rest fr w') : JL P N ops Q (⟨none, .mapUpdate t mo x y, ty, pos, af, none⟩ :: rest) fr w := by
  obtain ⟨w', h1, h2⟩ := mapUpdate_own H hu KT hi k v
  have hL' := setLK_eq hL
  simp at hL'
  subst hL'
  refine JL.unit rfl rfl (fun a Ha => ?_) (kk w' h2)
  simp only [execOp, Ha.eval hm, Ha.eval hx, Ha.eval hy]
  simp [h1]
/-- m[k], of a map whose block is known -/
theorem JL.lookupB {mo x : Operand} {β : Nat} {es : Array MapEntry} {clock : Nat} {m : List (K × V)} {ok : Bool} (k : K) (z : V) (hb : w.heap[β]? = some (.map es clock)) (hM : MapIs kev vev es clock m) (hm : fr.ev mo = some (.map (some β))) (hx : fr.ev x = some (kev k))
    (hu : P.underlying t = some (.map kt et)) (KT : KeyT P kt kev) (hz : ∀ w, (zeroValue et).run P w = .ok (vev z) w) (hd : Fr.fits N d = true)
    (kk : JL P N ops Q rest (fr.put d (if ok then .tuple #[vev ((mget m k).getD z), .bool (mget m k).isSome] else vev ((mget m k).getD z))) w) : JL P N ops Q (⟨d, .lookup t mo x ok, ty, pos, af, none⟩ :: rest) fr w :=
  JL.val rfl hd (fun a Ha => by
    simp only [execOp, Ha.eval hm, Ha.eval hx]
    simp [lookup_run hu KT hb hM hz k ok]) kk
theorem JL.lookupM {mo x : Operand} {β : Nat} {m : List (K × V)} {ok : Bool} (i : Nat) (H : Own w0 w L) (k : K) (z : V) (hm : fr.ev mo = some (.map (some β))) (hx : fr.ev x = some (kev k)) (hi : L[i]? = some (tmap kev vev β m))
    (hu : P.underlying t = some (.map kt et)) (KT : KeyT P kt kev) (hz : ∀ w, (zeroValue et).run P w = .ok (vev z) w) (hd : Fr.fits N d = true)
    (kk : JL P N ops Q rest (fr.put d (if ok then .tuple #[vev ((mget m k).getD z), .bool (mget m k).isSome] else vev ((mget m k).getD z))) w) : JL P N ops Q (⟨d, .lookup t mo x ok, ty, pos, af, none⟩ :: rest) fr w := by
  obtain ⟨es, clock, hM, H1⟩ := H.openM hi
  have hb := (H1.get (List.getElem?_set_self (List.getElem?_eq_some_iff.1 hi).1)).2
  exact JL.lookupB k z hb hM hm hx hu KT hz hd kk
theorem JL.delete {mo x : Operand} {β : Nat} {kt' : TypeId} {m : List (K × V)} (i : Nat) (H : Own w0 w L) (k : K) (hm : fr.ev mo = some (.map (some β))) (hx : fr.ev x = some (kev k)) (hu : P.underlying t = some (.map kt et)) (KT : KeyT P kt kev)
    (hi : L[i]? = some (tmap kev vev β m)) (hL : setLK (tmap kev vev β (mdel m k)) i L some = some L') (hd : Fr.fits N d = true) (kk : ∀ w', Own w0 w' L' → JL P N ops Q rest (fr.put d (.tuple #[])) w') : JL P N ops Q (⟨d, .call ⟨.builtin .delete, #[mo, x], #[t, kt']⟩, ty, pos, af, none⟩ :: rest) fr w := by
  obtain ⟨w', h1, h2⟩ := delete_own (ty := ty) (kt' := kt') H hu KT hi k
  have hL' := setLK_eq hL
  simp at hL'
  subst hL'
  refine JL.val rfl hd (fun a Ha => ?_) (kk w' h2)
  simp only [execOp, resolve]
  simp [Ha.eval hm, Ha.eval hx, invoke, builtin, h1]
omit [DecidableEq K] in
theorem JL.lenM {mo : Operand} {β : Nat} {m : List (K × V)} (i : Nat) (H : Own w0 w L) (hm : fr.ev mo = some (.map (some β))) (hi : L[i]? = some (tmap kev vev β m)) (hu : P.underlying t = some (.map kt et)) (hd : Fr.fits N d = true)
    (kk : JL P N ops Q rest (fr.put d (.int .i64 m.length)) w) : JL P N ops Q (⟨d, .call ⟨.builtin .len, #[mo], #[t]⟩, ty, pos, af, none⟩ :: rest) fr w := by
  obtain ⟨es, clock, hM, H1⟩ := H.openM hi
  have hb := (H1.get (List.getElem?_set_self (List.getElem?_eq_some_iff.1 hi).1)).2
  refine JL.val rfl hd (fun a Ha => ?_) kk
  simp only [execOp, resolve]
  simp [Ha.eval hm, invoke, builtin, Builtin.len_, run_underlying hu, MapKept.run_getObj_map hb, goInt, hM.size]
/-! ### ranging over a map: the entries that are left -/
theorem JL.rangeM {mo : Operand} {β : Nat} {es : Array MapEntry} {clock : Nat} (i : Nat) (H : Own w0 w L) (hm : fr.ev mo = some (.map (some β))) (hi : L[i]? = some (blk β (.map es clock))) (hu : P.underlying t = some (.map kt et)) (hd : Fr.fits N d = true)
    (kk : ∀ r w', Own w0 w' (blk r (.mapIter (some β) clock #[] clock) :: L) → JL P N ops Q rest (fr.put d (.pointer (some ⟨r, 0, none⟩))) w') : JL P N ops Q (⟨d, .range t mo, ty, pos, af, none⟩ :: rest) fr w := by
  have hb := (H.get hi).2
  refine JL.val rfl hd (fun a Ha => ?_) (kk w.heap.size (w.alloc (.mapIter (some β) clock #[] clock)) (H.new _))
  simp only [execOp, Ha.eval hm]
  simp [run_range_map w t kt et β es clock hu hb]
theorem JL.nextM {it : Operand} {β r since c0 : Nat} {seen : Array Nat} {es : Array MapEntry} {clock : Nat} (i j : Nat) (H : Own w0 w L) (hit : fr.ev it = some (.pointer (some ⟨r, 0, none⟩))) (hi : L[i]? = some (blk r (.mapIter (some β) since seen c0)))
    (hj : L[j]? = some (blk β (.map es clock))) (hold : ∀ x ∈ es.toList, x.born < since) (hsc : since ≤ c0) (hd : Fr.fits N d = true)
    (kend : (leftOf es seen).size = 0 → JL P N ops Q rest (fr.put d (.tuple #[.bool false])) w)
    (kstep : ∀ e w', e ∈ (leftOf es seen).toList → Own w0 w' (L.set i (blk r (.mapIter (some β) since (seen.push e.born) clock))) → JL P N ops Q rest (fr.put d (.tuple #[.bool true, e.key, e.val])) w') :
    JL P N ops Q (⟨d, .next it false, ty, pos, af, none⟩ :: rest) fr w := by
  have hr := (H.get hi).2
  have hb := (H.get hj).2
  rcases run_next_at (P := P) w ty r β since c0 seen es clock hr hb hold hsc with ⟨h0, hrun⟩ | ⟨e, he, w1, hw1, hrun⟩
  · exact JL.val rfl hd (fun a Ha => by simp only [execOp, Ha.eval hit]; simp [hrun]) (kend h0)
  · have H1 : Own w0 w1 L := by
      rcases hw1 with rfl | rfl
      · exact H
      · exact H.drew
    have hr1 := (H1.get hi).2
    have hlt := (Array.getElem?_eq_some_iff.1 hr1).1
    have H2 : Own w0 (setBlock w1 r (.mapIter (some β) since (seen.push e.born) clock)) (L.set i (blk r (.mapIter (some β) since (seen.push e.born) clock))) :=
      H1.put hi _ rfl rfl rfl (by simp [setBlock]) (fun k hk _ => by simp [setBlock, Array.getElem?_setIfInBounds_ne (Ne.symm hk)]) (by simp [setBlock, hlt])
    exact JL.val rfl hd (fun a Ha => by simp only [execOp, Ha.eval hit]; simp [hrun]) (kstep e _ he H2)
theorem JL.entryM {it : Operand} {β r since : Nat} {seen : Array Nat} {es : Array MapEntry} {clock : Nat} {e : MapEntry} (i j : Nat) (H : Own w0 w L) (hit : fr.ev it = some (.pointer (some ⟨r, 0, none⟩))) (hi : L[i]? = some (blk r (.mapIter (some β) since (seen.push e.born) clock)))
    (hj : L[j]? = some (blk β (.map es clock))) (he : e ∈ es.toList) (hn : (es.toList.map (·.born)).Nodup) (hd : Fr.fits N d = true) (kk : JL P N ops Q rest (fr.put d (.tuple #[e.key, e.val])) w) : JL P N ops Q (⟨d, .entry it, ty, pos, af, none⟩ :: rest) fr w :=
  JL.val rfl hd (fun a Ha => by
    simp only [execOp, Ha.eval hit]
    simp [run_entry_at w r β since seen es clock e (H.get hi).2 (H.get hj).2 he hn]) kk
end
/-- the pairs that an iterator has not handed out -/
def ItIs {K V : Type} (kev : K → Value) (vev : V → Value) (es : Array MapEntry) (seen : Array Nat) (l : List (K × V)) : Prop := (leftOf es seen).toList.map (fun e => (e.key, e.val)) = l.map (fun p => (kev p.1, vev p.2))
section
variable {K V : Type} {kev : K → Value} {vev : V → Value} {es : Array MapEntry} {clock : Nat} {m l : List (K × V)} {seen : Array Nat}
theorem ItIs.start (h : MapIs kev vev es clock m) : ItIs kev vev es #[] m := by
  unfold ItIs leftOf
  rw [show es.filter (fun e => !(#[] : Array Nat).contains e.born) = es by simp]
  exact h.enc
theorem ItIs.ended (h : ItIs kev vev es seen l) (h0 : (leftOf es seen).size = 0) : l = [] := by
  have := congrArg List.length h
  simp only [List.length_map, Array.length_toList, h0] at this
  exact List.eq_nil_of_length_eq_zero this.symm
theorem ItIs.step (hM : MapIs kev vev es clock m) (h : ItIs kev vev es seen l) {e : MapEntry} (he : e ∈ (leftOf es seen).toList) :
    e ∈ es.toList ∧ ∃ a p b, l = a ++ p :: b ∧ e.key = kev p.1 ∧ e.val = vev p.2 ∧ ItIs kev vev es (seen.push e.born) (a ++ b) := by
  have hes : e ∈ es.toList := by
    unfold leftOf at he
    rw [Array.toList_filter] at he
    exact (List.mem_filter.1 he).1
  refine ⟨hes, ?_⟩
  obtain ⟨s, t, hst⟩ := List.append_of_mem he
  have h' := h
  unfold ItIs at h'
  rw [hst, List.map_append, List.map_cons] at h'
  obtain ⟨a, q, rfl, ha, hq⟩ := List.map_eq_append_iff.1 h'.symm
  obtain ⟨p, b, rfl, hp, hb⟩ := List.map_eq_cons_iff.1 hq
  simp only [Prod.mk.injEq] at hp
  refine ⟨a, p, b, rfl, hp.1.symm, hp.2.symm, ?_⟩
  unfold ItIs
  have hborn : ((leftOf es seen).toList.map (·.born)).Nodup := by
    unfold leftOf
    rw [Array.toList_filter]
    exact hM.born.sublist (List.filter_sublist.map _)
  have hpush : (leftOf es (seen.push e.born)).toList = (leftOf es seen).toList.filter (fun x => x.born != e.born) := by
    unfold leftOf
    rw [Array.toList_filter, Array.toList_filter, List.filter_filter]
    congr 1
    funext x
    simp only [Array.contains_push]
    by_cases hx : x.born = e.born
    · simp [hx]
    · have h1 : (x.born == e.born) = false := by simpa using hx
      simp [bne, h1]
  rw [hpush, hst]
  rw [hst, List.map_append, List.map_cons, List.nodup_append] at hborn
  obtain ⟨_, h2, h3⟩ := hborn
  rw [List.nodup_cons] at h2
  have f1 : s.filter (fun x => x.born != e.born) = s := List.filter_eq_self.2 fun x hx => by
    have := h3 x.born (List.mem_map.2 ⟨x, hx, rfl⟩) e.born (by simp)
    simpa using this
  have f2 : t.filter (fun x => x.born != e.born) = t := List.filter_eq_self.2 fun x hx => by
    have : x.born ≠ e.born := fun he => h2.1 (by rw [← he]; exact List.mem_map.2 ⟨x, hx, rfl⟩)
    simpa using this
  rw [List.filter_append, List.filter_cons, f1, f2]
  simp [ha, hb]
end
end Go.J

namespace Go.J
set_option linter.unusedSimpArgs false
set_option linter.unusedVariables false
/-! plain: the runs of a set, cell by cell -/
def rstep (s : Cell → Bool) (y : Int) (out : List Run) (x : Int) : List Run :=
  if s ⟨x, y⟩ then
    (match out.getLast? with
    | some l => if l.Y = y ∧ l.To = x then out.dropLast ++ [⟨l.Y, l.From, x + 1⟩] else out ++ [⟨y, x, x + 1⟩]
    | none => out ++ [⟨y, x, x + 1⟩])
  else out
def runRow1 (s : Cell → Bool) (y : Int) (out : List Run) (n : Nat) : List Run := (List.range n).foldl (fun o (k : Nat) => rstep s y o k) out
def runAll (s : Cell → Bool) (W : Nat) (n : Nat) : List Run := (List.range n).foldl (fun o (y : Nat) => runRow1 s y o W) []
theorem runRow1_succ (s : Cell → Bool) (y : Int) (out : List Run) (n : Nat) : runRow1 s y out (n + 1) = rstep s y (runRow1 s y out n) n := by
  unfold runRow1; rw [List.range_succ, List.foldl_append]; rfl
theorem runAll_succ (s : Cell → Bool) (W n : Nat) : runAll s W (n + 1) = runRow1 s n (runAll s W n) W := by
  unfold runAll; rw [List.range_succ, List.foldl_append]; rfl
/-- what stands when the cells ahead of (x, y) are done -/
structure RunsTo (s : Cell → Bool) (W H : Int) (x y : Int) (out : List Run) : Prop where
  canon : Canon W H out
  last : ∀ r ∈ out, r.Y < y ∨ r.Y = y ∧ r.To ≤ x
  has : ∀ c : Cell, hasB out c = true ↔ (0 ≤ c.X ∧ c.X < W) ∧ 0 ≤ c.Y ∧ (c.Y < y ∨ c.Y = y ∧ c.X < x) ∧ s c = true
theorem hasB_append {a b : List Run} {c : Cell} : hasB (a ++ b) c = true ↔ hasB a c = true ∨ hasB b c = true := by
  unfold hasB; rw [List.any_append, Bool.or_eq_true]
theorem hasB_one {r : Run} {c : Cell} : hasB [r] c = true ↔ r.Y = c.Y ∧ r.From ≤ c.X ∧ c.X < r.To := by
  rw [hasB_iff]; simp
theorem RunsTo.step {s : Cell → Bool} {W H : Int} {x y : Int} {out : List Run} (h : RunsTo s W H x y out) (hx : 0 ≤ x ∧ x < W) (hy : 0 ≤ y ∧ y < H) : RunsTo s W H (x + 1) y (rstep s y out x) := by
  unfold rstep
  cases hs : s ⟨x, y⟩ with
  | false =>
    simp only [Bool.false_eq_true, if_false]
    refine ⟨h.canon, fun r hr => by have := h.last r hr; omega, fun c => ?_⟩
    rw [h.has c]
    constructor
    · rintro ⟨h1, h2, h3, h4⟩; exact ⟨h1, h2, by omega, h4⟩
    · rintro ⟨h1, h2, h3, h4⟩
      refine ⟨h1, h2, ?_, h4⟩
      by_cases hc : c.Y = y ∧ c.X = x
      · exfalso
        have : c = ⟨x, y⟩ := by cases c; simp_all
        rw [this, hs] at h4; cases h4
      · omega
  | true =>
    simp only [if_true]
    have hnew : ∀ c : Cell, ((0 ≤ c.X ∧ c.X < W) ∧ 0 ≤ c.Y ∧ (c.Y < y ∨ c.Y = y ∧ c.X < x + 1) ∧ s c = true) ↔ ((0 ≤ c.X ∧ c.X < W) ∧ 0 ≤ c.Y ∧ (c.Y < y ∨ c.Y = y ∧ c.X < x) ∧ s c = true) ∨ (c.Y = y ∧ c.X = x) := by
      intro c
      constructor
      · rintro ⟨h1, h2, h3, h4⟩
        by_cases hc : c.Y = y ∧ c.X = x
        · exact .inr hc
        · exact .inl ⟨h1, h2, by omega, h4⟩
      · rintro (⟨h1, h2, h3, h4⟩ | ⟨h1, h2⟩)
        · exact ⟨h1, h2, by omega, h4⟩
        · have : c = ⟨x, y⟩ := by cases c; simp_all
          exact ⟨by omega, by omega, by omega, by rw [this]; exact hs⟩
    have happ : (∀ r ∈ out, r.Y < y ∨ r.Y = y ∧ r.To < x) → RunsTo s W H (x + 1) y (out ++ [⟨y, x, x + 1⟩]) := by
      intro hl
      refine ⟨⟨fun r hr => ?_, ?_⟩, fun r hr => ?_, fun c => ?_⟩
      · rcases List.mem_append.1 hr with hr | hr
        · exact h.canon.rng r hr
        · simp at hr; subst hr; simp only; omega
      · rw [List.pairwise_append]
        refine ⟨h.canon.ord, by simp, fun r hr t ht => ?_⟩
        simp at ht; subst ht
        exact hl r hr
      · rcases List.mem_append.1 hr with hr | hr
        · have := h.last r hr; omega
        · simp at hr; subst hr; exact .inr ⟨rfl, Int.le_refl _⟩
      · rw [hasB_append, h.has c, hasB_one, hnew c]
        refine or_congr_right ?_
        simp only
        omega
    rcases List.eq_nil_or_concat out with rfl | ⟨init, l, rfl⟩
    · exact happ (by simp)
    · simp only [List.concat_eq_append, List.getLast?_append, List.getLast?_singleton, Option.some_or, List.dropLast_concat] at *
      split
      · rename_i hj
        have hl := h.canon.rng l (by simp)
        have hord := h.canon.ord
        rw [List.pairwise_append] at hord
        refine ⟨⟨fun r hr => ?_, ?_⟩, fun r hr => ?_, fun c => ?_⟩
        · rcases List.mem_append.1 hr with hr | hr
          · exact h.canon.rng r (List.mem_append_left _ hr)
          · simp at hr; subst hr; simp only; omega
        · rw [List.pairwise_append]
          refine ⟨hord.1, by simp, fun r hr t ht => ?_⟩
          simp at ht; subst ht
          exact hord.2.2 r hr l (by simp)
        · rcases List.mem_append.1 hr with hr | hr
          · have := h.last r (List.mem_append_left _ hr); omega
          · simp at hr; subst hr; exact .inr ⟨hj.1, Int.le_refl _⟩
        · have hc := h.has c
          rw [hasB_append, hasB_one] at hc
          rw [hasB_append, hasB_one, hnew c, ← hc]
          simp only
          constructor
          · rintro (h | h)
            · exact .inl (.inl h)
            · rcases (show (l.Y = c.Y ∧ l.From ≤ c.X ∧ c.X < l.To) ∨ (c.Y = y ∧ c.X = x) by omega) with h | h
              · exact .inl (.inr h)
              · exact .inr h
          · rintro ((h | h) | h)
            · exact .inl h
            · exact .inr (by omega)
            · exact .inr (by omega)
      · rename_i hj
        refine happ fun r hr => ?_
        have h1 := h.last r hr
        rcases List.mem_append.1 hr with hr | hr
        · have h2 := h.canon.ord
          rw [List.pairwise_append] at h2
          have h3 := h2.2.2 r hr l (by simp)
          have h4 := h.last l (by simp)
          have h5 := h.canon.rng l (by simp)
          omega
        · simp at hr
          subst hr
          omega
theorem runAll_to {s : Cell → Bool} {W H : Int} (hW : 0 ≤ W) : ∀ n : Nat, (n : Int) ≤ H → RunsTo s W H 0 n (runAll s W.toNat n) := by
  intro n
  induction n with
  | zero =>
    intro _
    refine ⟨⟨by simp [runAll], by simp [runAll]⟩, by simp [runAll], fun c => ?_⟩
    constructor
    · intro h; simp [runAll, hasB] at h
    · rintro ⟨h1, h2, h3, _⟩; exfalso; simp at h3; omega
  | succ n ih =>
    intro hn
    rw [runAll_succ]
    have h0 := ih (by omega)
    have key : ∀ k : Nat, (k : Int) ≤ W → RunsTo s W H k n (runRow1 s n (runAll s W.toNat n) k) := by
      intro k
      induction k with
      | zero => intro _; exact h0
      | succ k ihk =>
        intro hk
        rw [runRow1_succ]
        have := (ihk (by omega)).step (by omega) (by omega)
        push_cast
        exact this
    have hW' := key W.toNat (by omega)
    refine ⟨hW'.canon, fun r hr => ?_, fun c => ?_⟩
    · have := hW'.last r hr; push_cast; omega
    · rw [hW'.has c]
      push_cast
      constructor
      · rintro ⟨h1, h2, h3, h4⟩; exact ⟨h1, h2, by omega, h4⟩
      · rintro ⟨h1, h2, h3, h4⟩; exact ⟨h1, h2, by omega, h4⟩
def runsR (g : Grid) (s : Cell → Bool) : List Run × Int := if (runAll s g.W.toNat g.H.toNat).length > 8192 then ([], 3) else (runAll s g.W.toNat g.H.toNat, 0)
theorem runAll_ok {g : Grid} (hW : 0 ≤ g.W) (hH : 0 ≤ g.H) (s : Cell → Bool) : Canon g.W g.H (runAll s g.W.toNat g.H.toNat) ∧ ∀ c, hasB (runAll s g.W.toNat g.H.toNat) c = true ↔ inG g c ∧ s c = true := by
  have h := runAll_to (s := s) (H := g.H) hW g.H.toNat (by omega)
  refine ⟨h.canon, fun c => ?_⟩
  rw [h.has c]
  unfold inG
  constructor
  · rintro ⟨h1, h2, h3, h4⟩; exact ⟨⟨h1, h2, by omega⟩, h4⟩
  · rintro ⟨⟨h1, h2, h3⟩, h4⟩; exact ⟨h1, h2, by omega, h4⟩
theorem regRes_runs {g : Grid} (hW : 0 ≤ g.W) (hH : 0 ≤ g.H) {T : Tab} {k : Nat} (hg : Tab.good g.W k T) (hl : Tab.low g.H T) (s : Cell → Bool) (h : ∀ c, hasB (regR T) c = true ↔ inG g c ∧ s c = true) : regRes T = runsR g s := by
  obtain ⟨h1, h2⟩ := runAll_ok hW hH s
  have : regR T = runAll s g.W.toNat g.H.toNat := canon_unique hW (regR_canon hg hl) h1 fun c => (h c).trans (h2 c).symm
  unfold regRes runsR
  rw [← this]
  split <;> split <;> first | rfl | omega
theorem runsR_congr {g : Grid} (hW : 0 ≤ g.W) (hH : 0 ≤ g.H) {s t : Cell → Bool} (h : ∀ c, inG g c → (s c = true ↔ t c = true)) : runsR g s = runsR g t := by
  obtain ⟨h1, h2⟩ := runAll_ok hW hH s
  obtain ⟨h3, h4⟩ := runAll_ok hW hH t
  have : runAll s g.W.toNat g.H.toNat = runAll t g.W.toNat g.H.toNat := canon_unique hW h1 h3 fun c => by
    rw [h2 c, h4 c]
    exact and_congr_right fun hc => h c hc
  unfold runsR
  rw [this]
end Go.J

namespace Go.J
open Go.RowKit Go.Proofs
set_option maxRecDepth 8000
set_option linter.unusedSimpArgs false
set_option linter.unusedVariables false
theorem equal_two {t : TypeId} (ht : t = 62 ∨ t = 23) (a b x y : Int) (w : World) : (Op.equal t (.agg ⟨[.int .i64 a, .int .i64 b]⟩) (.agg ⟨[.int .i64 x, .int .i64 y]⟩)).run Try.prog w = .ok (decide (a = x ∧ b = y)) w := by
  have u3 := Try.underlying3
  have a3 := Try.isAgg3
  have z3 := Try.sizeOf3
  rcases ht with rfl | rfl
  · unfold Op.equal Op.maxDepth
    rw [show (10000 : Nat) = 9999 + 1 from rfl, run_equalIn_agg w 9999 62 _ _ (by kernel_rfl) (by kernel_rfl)]
    simp only [Program.fieldsOf, Try.underlying62]
    go_simp
    by_cases h1 : a = x <;> by_cases h2 : b = y <;> simp [h1, h2]
  · unfold Op.equal Op.maxDepth
    rw [show (10000 : Nat) = 9999 + 1 from rfl, run_equalIn_agg w 9999 23 _ _ (by kernel_rfl) (by kernel_rfl)]
    simp only [Program.fieldsOf, Try.underlying23]
    go_simp
    by_cases h1 : a = x <;> by_cases h2 : b = y <;> simp [h1, h2]
theorem check_two {t : TypeId} (ht : t = 62 ∨ t = 23) (em : Bool) (a b : Int) (w : World) : (Instr.checkKey em 10000 t (.agg ⟨[.int .i64 a, .int .i64 b]⟩)).run Try.prog w = .ok () w := by
  have u3 := Try.underlying3
  have a3 := Try.isAgg3
  have z3 := Try.sizeOf3
  rcases ht with rfl | rfl
  · rw [show (10000 : Nat) = 9998 + 1 + 1 from rfl]
    unfold Instr.checkKey
    rw [Sem.run_bind, run_underlying Try.underlying62]
    simp only [Result.andThen]
    go_simp
    unfold Instr.checkKey
    go_simp
  · rw [show (10000 : Nat) = 9998 + 1 + 1 from rfl]
    unfold Instr.checkKey
    rw [Sem.run_bind, run_underlying Try.underlying23]
    simp only [Result.andThen]
    go_simp
    unfold Instr.checkKey
    go_simp
theorem bits_two (a b : Int) : Instr.sameBits 10000 (.agg ⟨[.int .i64 a, .int .i64 b]⟩) (.agg ⟨[.int .i64 a, .int .i64 b]⟩) = true := by
  rw [show (10000 : Nat) = 9998 + 1 + 1 from rfl]
  simp [Instr.sameBits]
theorem keyCell : KeyT Try.prog 62 Cell.ev := KeyT.agg Try.underlying62 (fun {a b} h => by cases a; cases b; simpa [Cell.ev] using h) (fun em k w => check_two (.inl rfl) em k.X k.Y w)
  (fun a b w => by
    have := equal_two (.inl rfl) a.X a.Y b.X b.Y w
    rw [show (decide (a = b)) = decide (a.X = b.X ∧ a.Y = b.Y) by cases a; cases b; simp]
    exact this) (fun k => bits_two k.X k.Y)
/-- a set of cells, as a map -/
def MSet (m : List (Cell × Bool)) (P : Cell → Prop) : Prop := ∀ c, (mget m c).getD false = true ↔ P c
theorem MSet.nil : MSet [] (fun _ => False) := fun c => by simp [mget]
theorem MSet.set {m : List (Cell × Bool)} {P : Cell → Prop} (h : MSet m P) (k : Cell) : MSet (mset m k true) (fun c => P c ∨ c = k) := fun c => by
  rw [mget_mset]
  by_cases hk : k = c
  · subst hk; simp
  · rw [if_neg hk, h c]
    constructor
    · exact .inl
    · rintro (h | h)
      · exact h
      · exact absurd h.symm hk
theorem MSet.put {m : List (Cell × Bool)} {P : Cell → Prop} (h : MSet m P) (k : Cell) (b : Bool) : MSet (mset m k b) (fun c => (c = k ∧ b = true) ∨ (c ≠ k ∧ P c)) := fun c => by
  rw [mget_mset]
  by_cases hk : k = c
  · subst hk; simp
  · rw [if_neg hk, h c]
    constructor
    · intro h; exact .inr ⟨fun e => hk e.symm, h⟩
    · rintro (h | h)
      · exact absurd h.1.symm hk
      · exact h.2
theorem MSet.congr {m : List (Cell × Bool)} {P P' : Cell → Prop} (h : MSet m P) (e : ∀ c, P c ↔ P' c) : MSet m P' := fun c => (h c).trans (e c)
theorem cell_eq {c : Cell} {x y : Int} : c = ⟨x, y⟩ ↔ c.X = x ∧ c.Y = y := by cases c; simp
theorem hasB_take {rs : List Run} {k : Nat} (hk : k < rs.length) (c : Cell) : hasB (rs.take (k + 1)) c = true ↔ hasB (rs.take k) c = true ∨ (rs[k].Y = c.Y ∧ rs[k].From ≤ c.X ∧ c.X < rs[k].To) := by
  rw [List.take_succ_eq_append_getElem hk, hasB_append, hasB_one]
def setM (β : Nat) (m : List (Cell × Bool)) : HP := tmap Cell.ev Value.bool β m
/-- runs whose numbers are no odd ones -/
def Tame (rs : List Run) : Prop := ∀ r ∈ rs, (-1000000000000 ≤ r.From ∧ r.From ≤ 1000000000000) ∧ -1000000000000 ≤ r.To ∧ r.To ≤ 1000000000000
theorem of_c (v : Value) (rs : List Run) (w : World) (hr : SlR w v rs) (ht : Tame rs) : Calls Try.prog 135 #[v] w (fun e w' => ∃ β m, e = .returned (.map (some β)) ∧ Own w w' [setM β m] ∧ MSet m (fun c => hasB rs c = true)) := by
  obtain ⟨hlen, a, cap, rfl, ha⟩ := hr
  refine calls_J (args := [.slice a rs.length cap]) Try.func135 rfl Try.ntmps135 rfl ?_
  have H := Own.start w
  ((repeat refine JC.seq ?_); refine JC.region ?_)
  refine JL.pure rfl rfl ?_
  refine JL.nil ?_
  ((repeat refine Ex.normal_block ?_); refine Ex.next ?_)
  ((repeat refine JC.seq ?_); refine JC.region ?_)
  refine JL.makeMap Cell.ev Value.bool H rfl ?_
  intro β w1 H
  refine JL.pure rfl rfl ?_
  refine JL.nil ?_
  ((repeat refine Ex.normal_block ?_); refine Ex.next ?_)
  ((repeat refine JC.seq ?_); refine JC.region ?_)
  refine JL.pure rfl rfl ?_
  refine JL.nil ?_
  ((repeat refine Ex.normal_block ?_); refine Ex.next ?_)
  ((repeat refine JC.seq ?_); refine JC.block ?_)
  ((repeat refine JC.seq ?_); refine JC.loop (ι := Nat × List (Cell × Bool)) (fun x => [(0, .slice a rs.length cap), (3, .map (some β)), (4, .int .i64 x.1)])
    (fun x wr => x.1 ≤ rs.length ∧ MSet x.2 (fun c => hasB (rs.take x.1) c = true) ∧ Own w wr [setM β x.2]) (fun x => rs.length - x.1) (0, []) ?_ ?_ ?_)
  · exact ⟨rfl, rfl, rfl, trivial⟩
  · exact ⟨Nat.zero_le _, MSet.nil.congr fun c => by simp [hasB], H⟩
  · rintro ⟨k, m⟩ wr ⟨hk, hm, H⟩
    simp only at hk hm H
    show JC _ _ _ _ [(0, .slice a rs.length cap), (3, .map (some β)), (4, .int .i64 k)] _
    ((repeat refine JC.seq ?_); refine JC.region ?_)
    refine JL.pure rfl rfl ?_
    refine JL.pure rfl rfl ?_
    refine JL.len rfl Try.underlying50 rfl ?_
    refine JL.pure rfl rfl ?_
    refine JL.nil ?_
    ((repeat refine Ex.normal_block ?_); refine Ex.next ?_)
    ((repeat refine JC.seq ?_); refine JC.cond rfl ?_ ?_)
    · intro h10
      (try simp only [Bool.not_eq_true', Bool.not_eq_false', decide_eq_true_eq, decide_eq_false_iff_not] at h10)
      have h10 : k < rs.length := by omega
      obtain ⟨βr, off, rfl, hβ, hc⟩ := ha.resolve_left (by rintro rfl; simp at h10)
      have hx : rs[k]? = some rs[k] := by simp [h10]
      have htk := ht _ (List.getElem_mem h10)
      ((repeat refine JC.seq ?_); refine JC.skip ?_)
      ((repeat refine Ex.normal_block ?_); refine Ex.next ?_)
      ((repeat refine JC.seq ?_); refine JC.block ?_)
      ((repeat refine JC.seq ?_); refine JC.region ?_)
      refine JL.pure rfl rfl ?_
      refine JL.pure rfl rfl ?_
      refine JL.indexS k rfl rfl Try.underlying50 sh140 rfl h10 rfl ?_
      refine JL.fieldAddr rfl Try.underlying140 rfl sh3 rfl ?_
      refine JL.load rfl sh3 (((hc k _ hx).part 1 rfl 1).grow hβ H.below) rfl ?_
      refine JL.pure rfl rfl ?_
      refine JL.nil ?_
      ((repeat refine Ex.normal_block ?_); refine Ex.next ?_)
      ((repeat refine JC.seq ?_); refine JC.block ?_)
      ((repeat refine JC.seq ?_); refine JC.loop (ι := Int × List (Cell × Bool)) (fun x => [(0, .slice (some ⟨βr, off, none⟩) rs.length cap), (3, .map (some β)), (4, .int .i64 k), (5, .int .i64 x.1)])
        (fun x wr => (rs[k].From ≤ x.1 ∧ (x.1 ≤ rs[k].To ∨ x.1 = rs[k].From)) ∧ MSet x.2 (fun c => hasB (rs.take k) c = true ∨ (rs[k].Y = c.Y ∧ rs[k].From ≤ c.X ∧ c.X < x.1)) ∧ Own w wr [setM β x.2]) (fun x => (rs[k].To - x.1).toNat) (rs[k].From, m) ?_ ?_ ?_)
      · exact ⟨rfl, rfl, rfl, rfl, trivial⟩
      · exact ⟨⟨Int.le_refl _, .inr rfl⟩, hm.congr fun c => ⟨.inl, fun h => h.elim id (fun h => by omega)⟩, H⟩
      · rintro ⟨x, m⟩ wr ⟨⟨hx0, hx1⟩, hm, H⟩
        simp only at hx0 hx1 hm H
        show JC _ _ _ _ [(0, .slice (some ⟨βr, off, none⟩) rs.length cap), (3, .map (some β)), (4, .int .i64 k), (5, .int .i64 x)] _
        ((repeat refine JC.seq ?_); refine JC.region ?_)
        refine JL.pure rfl rfl ?_
        refine JL.pure rfl rfl ?_
        refine JL.pure rfl rfl ?_
        refine JL.indexS k rfl rfl Try.underlying50 sh140 rfl h10 rfl ?_
        refine JL.fieldAddr rfl Try.underlying140 rfl sh3 rfl ?_
        refine JL.load rfl sh3 (((hc k _ hx).part 2 rfl 1).grow hβ H.below) rfl ?_
        refine JL.pure rfl rfl ?_
        refine JL.nil ?_
        ((repeat refine Ex.normal_block ?_); refine Ex.next ?_)
        ((repeat refine JC.seq ?_); refine JC.cond rfl ?_ ?_)
        · intro h24
          (try simp only [Bool.not_eq_true', Bool.not_eq_false', decide_eq_true_eq, decide_eq_false_iff_not] at h24)
          ((repeat refine JC.seq ?_); refine JC.skip ?_)
          ((repeat refine Ex.normal_block ?_); refine Ex.next ?_)
          ((repeat refine JC.seq ?_); refine JC.block ?_)
          ((repeat refine JC.seq ?_); refine JC.region ?_)
          refine JL.pure rfl rfl ?_
          refine JL.pure rfl rfl ?_
          refine JL.pure rfl rfl ?_
          refine JL.pure rfl rfl ?_
          refine JL.indexS k rfl rfl Try.underlying50 sh140 rfl h10 rfl ?_
          refine JL.fieldAddr rfl Try.underlying140 rfl sh3 rfl ?_
          refine JL.load rfl sh3 (((hc k _ hx).part 0 rfl 1).grow hβ H.below) rfl ?_
          refine JL.build s62 rfl rfl ?_
          refine JL.mapUpdate 0 H (⟨x, rs[k].Y⟩ : Cell) true rfl rfl rfl Try.underlying202 keyCell rfl rfl ?_
          intro w1 H
          refine JL.nil ?_
          ((repeat refine Ex.normal_block ?_); refine Ex.next ?_)
          ((repeat refine JC.seq ?_); refine JC.region ?_)
          refine JL.pure rfl rfl ?_
          refine JL.arith rfl (by unfold In64; omega) rfl ?_
          refine JL.pure rfl rfl ?_
          refine JL.nil ?_
          (repeat refine Ex.normal_block ?_)
          refine Ex.again (x + 1, mset m ⟨x, rs[k].Y⟩ true) ⟨rfl, rfl, rfl, rfl, trivial⟩ ⟨⟨by simp only; omega, by simp only; omega⟩, (hm.set ⟨x, rs[k].Y⟩).congr fun c => ?_, H⟩ (by simp only; omega)
          simp only
          rw [cell_eq, or_assoc]
          refine or_congr_right ?_
          omega
        · intro h24
          (try simp only [Bool.not_eq_true', Bool.not_eq_false', decide_eq_true_eq, decide_eq_false_iff_not] at h24)
          ((repeat refine JC.seq ?_); refine JC.exit ?_)
          (repeat (first | refine Ex.exit_then ?_ | refine Ex.exit_miss (by decide) ?_))
          refine Ex.exit_hit ?_
          ((repeat refine Ex.normal_block ?_); refine Ex.next ?_)
          ((repeat refine JC.seq ?_); refine JC.region ?_)
          refine JL.pure rfl rfl ?_
          refine JL.arith rfl (by unfold In64; omega) rfl ?_
          refine JL.pure rfl rfl ?_
          refine JL.nil ?_
          (repeat refine Ex.normal_block ?_)
          refine Ex.again (k + 1, m) ⟨rfl, rfl, rfl, trivial⟩ ⟨h10, hm.congr fun c => ?_, H⟩ (by simp only; omega)
          simp only
          rw [hasB_take h10]
          refine or_congr_right ?_
          omega
    · intro h10
      (try simp only [Bool.not_eq_true', Bool.not_eq_false', decide_eq_true_eq, decide_eq_false_iff_not] at h10)
      have hkk : k = rs.length := by omega
      subst hkk
      rw [List.take_length] at hm
      ((repeat refine JC.seq ?_); refine JC.exit ?_)
      (repeat (first | refine Ex.exit_then ?_ | refine Ex.exit_miss (by decide) ?_))
      refine Ex.exit_hit ?_
      ((repeat refine Ex.normal_block ?_); refine Ex.next ?_)
      ((repeat refine JC.seq ?_); refine JC.region ?_)
      refine JL.pure rfl rfl ?_
      refine JL.pure rfl rfl ?_
      refine JL.nil ?_
      ((repeat refine Ex.normal_block ?_); refine Ex.next ?_)
      ((repeat refine JC.seq ?_); refine JC.ret ?_)
      (repeat (first | refine Ex.ret_then ?_ | refine Ex.ret_block ?_))
      refine Ex.ret1 rfl (.tmp rfl) ⟨β, m, rfl, H, hm⟩
theorem partB_iff {a b : List Run} : partB a b = true ↔ ∀ r ∈ a, ∀ x, r.From ≤ x → x < r.To → hasB b ⟨x, r.Y⟩ = true := by
  unfold partB
  rw [List.all_eq_true]
  constructor
  · intro h r hr x h1 h2
    have h3 := h r hr
    rw [List.all_eq_true] at h3
    have h4 := h3 (x - r.From).toNat (List.mem_range.2 (by omega))
    rwa [show r.From + ((x - r.From).toNat : Int) = x by omega] at h4
  · intro h r hr
    rw [List.all_eq_true]
    intro k hk
    rw [List.mem_range] at hk
    exact h r hr _ (by omega) (by omega)
theorem zero4 : ∀ w, (zeroValue 4).run Try.prog w = .ok (Value.bool false) w := fun w => by
  obtain ⟨z, h1, h2⟩ := tyZero_run (P := Try.prog) (t := 4) (l := [.bool false]) (by kernel_rfl) w
  have : z = .bool false := by
    cases z <;> simp_all [Value.cells]
  rw [h1, this]
theorem part_c (av bv : Value) (a b : List Run) (w : World) (ha : SlR w av a) (hb : SlR w bv b) (hta : Tame a) (htb : Tame b) : Pur Try.prog 44 #[av, bv] w (.bool (partB a b)) := by
  obtain ⟨hlen, aa, cap, rfl, ha⟩ := ha
  refine pur_J (args := [.slice aa a.length cap, bv]) Try.func44 rfl Try.ntmps44 rfl ?_
  have H := Own.start w
  ((repeat refine JC.seq ?_); refine JC.region ?_)
  refine JL.pure rfl rfl ?_
  refine JL.nil ?_
  ((repeat refine Ex.normal_block ?_); refine Ex.next ?_)
  ((repeat refine JC.seq ?_); refine JC.region ?_)
  refine JL.pure rfl rfl ?_
  refine JL.call fb135 rfl rfl (of_c bv b _ (hb.grow H.below) htb) ?_
  rintro _ w1 ⟨β, m, rfl, K, hm⟩
  have H := H.join K
  refine ⟨_, rfl, ?_⟩
  refine JL.pure rfl rfl ?_
  refine JL.nil ?_
  ((repeat refine Ex.normal_block ?_); refine Ex.next ?_)
  ((repeat refine JC.seq ?_); refine JC.region ?_)
  refine JL.pure rfl rfl ?_
  refine JL.nil ?_
  ((repeat refine Ex.normal_block ?_); refine Ex.next ?_)
  ((repeat refine JC.seq ?_); refine JC.block ?_)
  ((repeat refine JC.seq ?_); refine JC.loop (ι := Nat) (fun k => [(0, .slice aa a.length cap), (5, .map (some β)), (6, .int .i64 k)])
    (fun k wr => k ≤ a.length ∧ (∀ (j : Nat) (h : j < a.length), j < k → ∀ x, a[j].From ≤ x → x < a[j].To → hasB b ⟨x, a[j].Y⟩ = true) ∧ Own w wr [setM β m]) (fun k => a.length - k) 0 ?_ ?_ ?_)
  · exact ⟨rfl, rfl, rfl, trivial⟩
  · exact ⟨Nat.zero_le _, fun j _ h => by omega, H⟩
  · rintro k wr ⟨hk, hno, H⟩
    ((repeat refine JC.seq ?_); refine JC.region ?_)
    refine JL.pure rfl rfl ?_
    refine JL.pure rfl rfl ?_
    refine JL.len rfl Try.underlying50 rfl ?_
    refine JL.pure rfl rfl ?_
    refine JL.nil ?_
    ((repeat refine Ex.normal_block ?_); refine Ex.next ?_)
    ((repeat refine JC.seq ?_); refine JC.cond rfl ?_ ?_)
    · intro h13
      (try simp only [Bool.not_eq_true', Bool.not_eq_false', decide_eq_true_eq, decide_eq_false_iff_not] at h13)
      have h13 : k < a.length := by omega
      obtain ⟨βr, off, rfl, hβ, hc⟩ := ha.resolve_left (by rintro rfl; simp at h13)
      have hx : a[k]? = some a[k] := by simp [h13]
      have htk := hta _ (List.getElem_mem h13)
      ((repeat refine JC.seq ?_); refine JC.skip ?_)
      ((repeat refine Ex.normal_block ?_); refine Ex.next ?_)
      ((repeat refine JC.seq ?_); refine JC.block ?_)
      ((repeat refine JC.seq ?_); refine JC.region ?_)
      refine JL.pure rfl rfl ?_
      refine JL.pure rfl rfl ?_
      refine JL.indexS k rfl rfl Try.underlying50 sh140 rfl h13 rfl ?_
      refine JL.fieldAddr rfl Try.underlying140 rfl sh3 rfl ?_
      refine JL.load rfl sh3 (((hc k _ hx).part 1 rfl 1).grow hβ H.below) rfl ?_
      refine JL.pure rfl rfl ?_
      refine JL.nil ?_
      ((repeat refine Ex.normal_block ?_); refine Ex.next ?_)
      ((repeat refine JC.seq ?_); refine JC.block ?_)
      ((repeat refine JC.seq ?_); refine JC.loop (ι := Int) (fun x => [(0, .slice (some ⟨βr, off, none⟩) a.length cap), (5, .map (some β)), (6, .int .i64 k), (7, .int .i64 x)])
        (fun x wr => (a[k].From ≤ x ∧ (x ≤ a[k].To ∨ x = a[k].From)) ∧ (∀ y, a[k].From ≤ y → y < x → hasB b ⟨y, a[k].Y⟩ = true) ∧ Own w wr [setM β m]) (fun x => (a[k].To - x).toNat) a[k].From ?_ ?_ ?_)
      · exact ⟨rfl, rfl, rfl, rfl, trivial⟩
      · exact ⟨⟨Int.le_refl _, .inr rfl⟩, fun y h1 h2 => by omega, H⟩
      · rintro x wr ⟨⟨hx0, hx1⟩, hin, H⟩
        ((repeat refine JC.seq ?_); refine JC.region ?_)
        refine JL.pure rfl rfl ?_
        refine JL.pure rfl rfl ?_
        refine JL.pure rfl rfl ?_
        refine JL.indexS k rfl rfl Try.underlying50 sh140 rfl h13 rfl ?_
        refine JL.fieldAddr rfl Try.underlying140 rfl sh3 rfl ?_
        refine JL.load rfl sh3 (((hc k _ hx).part 2 rfl 1).grow hβ H.below) rfl ?_
        refine JL.pure rfl rfl ?_
        refine JL.nil ?_
        ((repeat refine Ex.normal_block ?_); refine Ex.next ?_)
        ((repeat refine JC.seq ?_); refine JC.cond rfl ?_ ?_)
        · intro h27
          (try simp only [Bool.not_eq_true', Bool.not_eq_false', decide_eq_true_eq, decide_eq_false_iff_not] at h27)
          ((repeat refine JC.seq ?_); refine JC.skip ?_)
          ((repeat refine Ex.normal_block ?_); refine Ex.next ?_)
          ((repeat refine JC.seq ?_); refine JC.block ?_)
          ((repeat refine JC.seq ?_); refine JC.region ?_)
          refine JL.pure rfl rfl ?_
          refine JL.pure rfl rfl ?_
          refine JL.pure rfl rfl ?_
          refine JL.pure rfl rfl ?_
          refine JL.indexS k rfl rfl Try.underlying50 sh140 rfl h13 rfl ?_
          refine JL.fieldAddr rfl Try.underlying140 rfl sh3 rfl ?_
          refine JL.load rfl sh3 (((hc k _ hx).part 0 rfl 1).grow hβ H.below) rfl ?_
          refine JL.build s62 rfl rfl ?_
          refine JL.lookupM 0 H (⟨x, a[k].Y⟩ : Cell) false rfl rfl rfl Try.underlying202 keyCell zero4 rfl ?_
          show JL _ _ _ _ _ (Fr.put _ (Value.bool ((mget m ⟨x, a[k].Y⟩).getD false)) _) _
          refine JL.pure rfl rfl ?_
          refine JL.nil ?_
          ((repeat refine Ex.normal_block ?_); refine Ex.next ?_)
          ((repeat refine JC.seq ?_); refine JC.cond rfl ?_ ?_)
          · intro h39
            (try simp only [Bool.not_eq_true', Bool.not_eq_false', decide_eq_true_eq, decide_eq_false_iff_not] at h39)
            
            ((repeat refine JC.seq ?_); refine JC.region ?_)
            refine JL.pure rfl rfl ?_
            refine JL.nil ?_
            ((repeat refine Ex.normal_block ?_); refine Ex.next ?_)
            ((repeat refine JC.seq ?_); refine JC.ret ?_)
            (repeat (first | refine Ex.ret_then ?_ | refine Ex.ret_block ?_))
            refine Ex.ret1 rfl (.tmp rfl) ⟨?_, H.below⟩
            have : partB a b = false := by
              rw [← Bool.not_eq_true, partB_iff]
              intro h
              have h1 := (hm _).2 (h _ (List.getElem_mem h13) x hx0 (by omega))
              rw [h1] at h39
              simp at h39
            rw [this]
          · intro h39
            (try simp only [Bool.not_eq_true', Bool.not_eq_false', decide_eq_true_eq, decide_eq_false_iff_not] at h39)
            have h39 : (mget m ⟨x, a[k].Y⟩).getD false = true := by simpa using h39
            ((repeat refine JC.seq ?_); refine JC.skip ?_)
            ((repeat refine Ex.normal_block ?_); refine Ex.next ?_)
            ((repeat refine JC.seq ?_); refine JC.region ?_)
            refine JL.pure rfl rfl ?_
            refine JL.arith rfl (by unfold In64; omega) rfl ?_
            refine JL.pure rfl rfl ?_
            refine JL.nil ?_
            (repeat refine Ex.normal_block ?_)
            refine Ex.again (x + 1) ⟨rfl, rfl, rfl, rfl, trivial⟩ ⟨⟨by omega, by omega⟩, fun y h1 h2 => ?_, H⟩ (by omega)
            by_cases hyx : y = x
            · subst hyx; exact (hm _).1 h39
            · exact hin y h1 (by omega)
        · intro h27
          (try simp only [Bool.not_eq_true', Bool.not_eq_false', decide_eq_true_eq, decide_eq_false_iff_not] at h27)
          ((repeat refine JC.seq ?_); refine JC.exit ?_)
          (repeat (first | refine Ex.exit_then ?_ | refine Ex.exit_miss (by decide) ?_))
          refine Ex.exit_hit ?_
          ((repeat refine Ex.normal_block ?_); refine Ex.next ?_)
          ((repeat refine JC.seq ?_); refine JC.region ?_)
          refine JL.pure rfl rfl ?_
          refine JL.arith rfl (by unfold In64; omega) rfl ?_
          refine JL.pure rfl rfl ?_
          refine JL.nil ?_
          (repeat refine Ex.normal_block ?_)
          refine Ex.again (k + 1) ⟨rfl, rfl, rfl, trivial⟩ ⟨h13, fun j h hj y hy1 hy2 => ?_, H⟩ (by omega)
          by_cases hjk : j = k
          · subst hjk; exact hin y hy1 (by omega)
          · exact hno j h (by omega) y hy1 hy2
    · intro h13
      (try simp only [Bool.not_eq_true', Bool.not_eq_false', decide_eq_true_eq, decide_eq_false_iff_not] at h13)
      
      ((repeat refine JC.seq ?_); refine JC.exit ?_)
      (repeat (first | refine Ex.exit_then ?_ | refine Ex.exit_miss (by decide) ?_))
      refine Ex.exit_hit ?_
      ((repeat refine Ex.normal_block ?_); refine Ex.next ?_)
      ((repeat refine JC.seq ?_); refine JC.region ?_)
      refine JL.pure rfl rfl ?_
      refine JL.nil ?_
      ((repeat refine Ex.normal_block ?_); refine Ex.next ?_)
      ((repeat refine JC.seq ?_); refine JC.ret ?_)
      (repeat (first | refine Ex.ret_then ?_ | refine Ex.ret_block ?_))
      refine Ex.ret1 rfl (.tmp rfl) ⟨?_, H.below⟩
      have : partB a b = true := partB_iff.2 fun r hr x h1 h2 => by
        obtain ⟨j, hj, rfl⟩ := List.getElem_of_mem hr
        exact hno j hj (by omega) x h1 h2
      rw [this]
end Go.J

namespace Go.J
open Go.RowKit Go.Proofs
set_option maxRecDepth 8000
set_option linter.unusedSimpArgs false
set_option linter.unusedVariables false
theorem bothR_len (g : Grid) (a b : List Run) : (bothR g a b).1.length ≤ 8192 := by
  unfold bothR; split
  · exact regRes_len _
  · simp
theorem both2_c (g : Grid) (lv av bv : Value) (a b : List Run) (w : World) (hl : SlR w lv g.land) (ha : SlR w av a) (hb : SlR w bv b) (hca : capOK av) (hcb : capOK bv) :
    Calls Try.prog 42 #[g.ev lv, av, bv] w (fun e w' => ResR w w' [] (bothR g a b) e) := by
  obtain ⟨aa, ac, rfl⟩ := ha.len
  obtain ⟨ba, bc, rfl⟩ := hb.len
  refine calls_J (args := [g.ev lv, .slice aa a.length ac, .slice ba b.length bc]) Try.func42 rfl Try.ntmps42 rfl ?_
  have H := Own.start w
  ((repeat refine JC.seq ?_); refine JC.region ?_)
  refine JL.box H rfl rfl rfl ?_
  intro b3 w1 H
  refine JL.pure rfl rfl ?_
  refine JL.pure rfl rfl ?_
  refine JL.nil ?_
  ((repeat refine Ex.normal_block ?_); refine Ex.next ?_)
  ((repeat refine JC.seq ?_); refine JC.region ?_)
  refine JL.loadB 0 H rfl sh52 rfl rfl rfl ?_
  refine JL.pure rfl rfl ?_
  refine JL.pure rfl rfl ?_
  refine JL.buildSlice H Try.underlying134 sh50 z50 rfl rfl rfl rfl rfl ?_
  intro b13 w2 H
  refine JL.callP H fb129 rfl rfl (checked_c g lv _ [(.slice aa a.length ac, a), (.slice ba b.length bc, b)] _ (hl.grow H.below) (H.blkSl1 (j := 0) (ev := Prod.fst) rfl [(.slice aa a.length ac, a), (.slice ba b.length bc, b)] rfl (by simp)) (by
    have hB := H.below
    intro p hp
    simp only [List.mem_cons, List.not_mem_nil, or_false] at hp
    rcases hp with rfl | rfl
    · exact ha.grow hB
    · exact hb.grow hB)) ?_
  intro w3 H _
  refine JL.pure rfl rfl ?_
  refine JL.nil ?_
  ((repeat refine Ex.normal_block ?_); refine Ex.next ?_)
  ((repeat refine JC.seq ?_); refine JC.region ?_)
  refine JL.pure rfl rfl ?_
  refine JL.pure rfl rfl ?_
  refine JL.nil ?_
  ((repeat refine Ex.normal_block ?_); refine Ex.next ?_)
  ((repeat refine JC.seq ?_); refine JC.cond rfl ?_ ?_)
  · intro h16
    (try simp only [Bool.not_eq_true', Bool.not_eq_false', decide_eq_true_eq, decide_eq_false_iff_not] at h16)
    have hok : checkedB g [a, b] = false := by
      cases hc : checkedB g [a, b] with
      | false => rfl
      | true => exfalso; simp [hc] at h16
    ((repeat refine JC.seq ?_); refine JC.region ?_)
    refine JL.pure rfl rfl ?_
    refine JL.pure rfl rfl ?_
    refine JL.pure rfl rfl ?_
    refine JL.nil ?_
    ((repeat refine Ex.normal_block ?_); refine Ex.next ?_)
    ((repeat refine JC.seq ?_); refine JC.ret ?_)
    (repeat (first | refine Ex.ret_then ?_ | refine Ex.ret_block ?_))
    refine Ex.ret2 rfl (.tmp rfl) (.tmp rfl) ?_
    unfold bothR ResR; rw [hok]
    exact ⟨.slice none 0 0, by simp [hok], (((H.drop 0).drop 0).nilRow 140 3)⟩
  · intro h16
    (try simp only [Bool.not_eq_true', Bool.not_eq_false', decide_eq_true_eq, decide_eq_false_iff_not] at h16)
    have hok : checkedB g [a, b] = true := by
      cases hc : checkedB g [a, b] with
      | true => rfl
      | false => exfalso; simp [hc] at h16
    obtain ⟨hgok, hall⟩ := checkedB_b hok
    obtain ⟨hgW, hgH, hgS, hgl⟩ := Grid.ok_b hgok
    have hal := rightB_len (hall a (by simp))
    have hbl := rightB_len (hall b (by simp))
    ((repeat refine JC.seq ?_); refine JC.skip ?_)
    ((repeat refine Ex.normal_block ?_); refine Ex.next ?_)
    ((repeat refine JC.seq ?_); refine JC.region ?_)
    refine JL.buildA Try.underlying195 sh193 za195 rfl rfl ?_
    refine JL.box H rfl rfl rfl ?_
    intro b19 w4 H
    have H := H.newT
    refine JL.pure rfl rfl ?_
    refine JL.nil ?_
    ((repeat refine Ex.normal_block ?_); refine Ex.next ?_)
    ((repeat refine JC.seq ?_); refine JC.region ?_)
    refine JL.pure rfl rfl ?_
    refine JL.loadB 2 H rfl sh52 rfl rfl rfl ?_
    refine JL.pure rfl rfl ?_
    refine JL.pure rfl rfl ?_
    refine JL.call fb130 rfl rfl (both_c (k := 0) H g lv _ _ a b hgW hgH (fun w' T' h => ha.grow h.below) (fun w' T' h => hb.grow h.below) hca hcb (tab0_good _) (by omega)) ?_
    rintro _ w5 ⟨rfl, H⟩
    refine ⟨_, rfl, ?_⟩
    refine JL.nil ?_
    ((repeat refine Ex.normal_block ?_); refine Ex.next ?_)
    ((repeat refine JC.seq ?_); refine JC.region ?_)
    refine JL.pure rfl rfl ?_
    refine JL.call fb131 rfl rfl (region_c2 H (bothT_good g a b) (by omega) hgW.2) ?_
    rintro _ w6 ⟨rv, rfl, H⟩
    refine ⟨_, rfl, ?_⟩
    refine JL.pure rfl rfl ?_
    refine JL.pure rfl rfl ?_
    refine JL.pure rfl rfl ?_
    refine JL.pure rfl rfl ?_
    refine JL.nil ?_
    ((repeat refine Ex.normal_block ?_); refine Ex.next ?_)
    ((repeat refine JC.seq ?_); refine JC.ret ?_)
    (repeat (first | refine Ex.ret_then ?_ | refine Ex.ret_block ?_))
    refine Ex.ret2 rfl (.tmp rfl) (.tmp rfl) ?_
    unfold bothR; rw [hok]
    exact ⟨_, rfl, (H.drop 1).drop 1⟩
theorem great_small {g : Grid} {n : Int} {l : List (List Run)} (h : greatB g n l = false) : (g.ok = true → g.W * g.H ≤ n) ∧ g.land.length ≤ 300 ∧ ∀ r ∈ l, r.length ≤ 300 := by
  unfold greatB at h
  simp only [Bool.or_eq_false_iff] at h
  obtain ⟨⟨h1, h2⟩, h3⟩ := h
  refine ⟨fun hg => ?_, ?_, fun r hr => ?_⟩
  · obtain ⟨hW, hH, _, _⟩ := Grid.ok_b hg
    unfold hugeB at h1
    simp only [Bool.and_eq_false_iff, decide_eq_false_iff_not] at h1
    omega
  · have := of_decide_eq_false h2; omega
  · have := List.any_eq_false.1 h3 r hr
    simp at this
    omega
theorem tame_right {W H : Int} (hW : W ≤ 256) {rs : List Run} (h : Canon W H rs) : Tame rs := fun r hr => by have := h.rng r hr; omega
theorem growR_tame {g : Grid} (hs : g.ok = true → g.W * g.H ≤ 4096) (r : List Run) (p : Push) : Tame (growR g r p).1 := by
  rcases growR_small hs r p with h | ⟨h1, _, h2, h3⟩
  · rw [h]; intro r hr; cases hr
  · rw [h2]
    have := (Grid.ok_b (checkedB_b h1).1).1
    exact tame_right this.2 (canon_of_right h3)
theorem gridMore_w (g : Grid) (lv av bv : Value) (a b : List Run) (p q : Push) (w : World) (hl : SlR w lv g.land) (ha : SlR w av a) (hb : SlR w bv b) (hca : capOK av) (hcb : capOK bv) :
    Pur Try.prog 6 #[g.ev lv, av, bv, p.ev, q.ev] w (.bool true) := by
  obtain ⟨aa, ac, rfl⟩ := ha.len
  obtain ⟨ba, bc, rfl⟩ := hb.len
  refine pur_J (args := [g.ev lv, .slice aa a.length ac, .slice ba b.length bc, p.ev, q.ev]) Try.func6 rfl Try.ntmps6 rfl ?_
  have H := Own.start w
  ((repeat refine JC.seq ?_); refine JC.region ?_)
  refine JL.box H rfl rfl rfl ?_
  intro b5 w1 H
  refine JL.box H rfl rfl rfl ?_
  intro b8 w2 H
  refine JL.box H rfl rfl rfl ?_
  intro b9 w3 H
  refine JL.pure rfl rfl ?_
  refine JL.nil ?_
  ((repeat refine Ex.normal_block ?_); refine Ex.next ?_)
  ((repeat refine JC.seq ?_); refine JC.region ?_)
  refine JL.callP H fb40 rfl rfl (alive_c _) ?_
  intro w4 H _
  refine JL.pure rfl rfl ?_
  refine JL.nil ?_
  ((repeat refine Ex.normal_block ?_); refine Ex.next ?_)
  ((repeat refine JC.seq ?_); refine JC.region ?_)
  refine JL.loadB 2 H rfl sh52 rfl rfl rfl ?_
  refine JL.pure rfl rfl ?_
  refine JL.pure rfl rfl ?_
  refine JL.buildSlice H Try.underlying134 sh50 z50 rfl rfl rfl rfl rfl ?_
  intro b35 w5 H
  refine JL.callP H fb41 rfl rfl (great_c g lv _ 1024 [((.slice aa a.length ac), a), ((.slice ba b.length bc), b)] _ (hl.grow H.below) (H.blkSl1 (j := 0) (ev := Prod.fst) rfl [((.slice aa a.length ac), a), ((.slice ba b.length bc), b)] rfl (by simp)) (by
    have hB := H.below
    intro p hp
    simp only [List.mem_cons, List.not_mem_nil, or_false] at hp
    rcases hp with rfl | rfl
    · exact ha.grow hB
    · exact hb.grow hB)) ?_
  intro w6 H _
  refine JL.pure rfl rfl ?_
  refine JL.cases 37 rfl ?_ ?_
  · intro h37
    (try simp only [Bool.not_eq_true', Bool.not_eq_false', decide_eq_true_eq, decide_eq_false_iff_not] at h37)
    
    refine JL.pass rfl rfl rfl rfl ?_
    refine JL.pass rfl rfl rfl rfl ?_
    refine JL.pure rfl rfl ?_
    refine JL.nil ?_
    ((repeat refine Ex.normal_block ?_); refine Ex.next ?_)
    ((repeat refine JC.seq ?_); refine JC.cond rfl (fun _ => ?_) (fun h => by cases h))
    ((repeat refine JC.seq ?_); refine JC.region ?_)
    refine JL.pure rfl rfl ?_
    refine JL.pure rfl rfl ?_
    refine JL.nil ?_
    ((repeat refine Ex.normal_block ?_); refine Ex.next ?_)
    ((repeat refine JC.seq ?_); refine JC.ret ?_)
    (repeat (first | refine Ex.ret_then ?_ | refine Ex.ret_block ?_))
    refine Ex.ret1 rfl (.tmp rfl) ⟨?_, H.below⟩
    rfl
  · intro h37
    (try simp only [Bool.not_eq_true', Bool.not_eq_false', decide_eq_true_eq, decide_eq_false_iff_not] at h37)
    have hsm := great_small (g := g) (n := 1024) (l := [a, b]) (by simpa using h37)
    have hs : g.ok = true → g.W * g.H ≤ 4096 := fun h => by have := hsm.1 h; omega
    have hlaw := more_law hs a b p q
    obtain ⟨bo, hbo⟩ : ∃ bo, bo = (bothR g a b).1 := ⟨_, rfl⟩
    have hbl : bo.length ≤ 8192 := by rw [hbo]; exact bothR_len g a b
    rw [← hbo] at hlaw
    refine JL.want rfl rfl ?_
    refine JL.pure rfl rfl ?_
    refine JL.want rfl rfl ?_
    refine JL.pure rfl rfl ?_
    refine JL.pure rfl rfl ?_
    refine JL.nil ?_
    ((repeat refine Ex.normal_block ?_); refine Ex.next ?_)
    ((repeat refine JC.seq ?_); refine JC.cond rfl (fun h => by cases h) (fun _ => ?_))
    ((repeat refine JC.seq ?_); refine JC.skip ?_)
    ((repeat refine Ex.normal_block ?_); refine Ex.next ?_)
    ((repeat refine JC.seq ?_); refine JC.region ?_)
    refine JL.loadB 3 H rfl sh52 rfl rfl rfl ?_
    refine JL.pure rfl rfl ?_
    refine JL.pure rfl rfl ?_
    refine JL.call fb42 rfl rfl (both2_c g lv (.slice aa a.length ac) (.slice ba b.length bc) a b _ (hl.grow H.below) (ha.grow H.below) (hb.grow H.below) hca hcb) ?_
    rintro _ w7 ⟨yv, rfl, K⟩
    rw [← hbo] at K
    have H := H.join K
    refine ⟨_, rfl, ?_⟩
    refine JL.pure rfl rfl ?_
    refine JL.pure rfl rfl ?_
    refine JL.pure rfl rfl ?_
    refine JL.pure rfl rfl ?_
    refine JL.pure rfl rfl ?_
    refine JL.nil ?_
    ((repeat refine Ex.normal_block ?_); refine Ex.next ?_)
    ((repeat refine JC.seq ?_); refine JC.region ?_)
    refine JL.loadB 4 H rfl sh52 rfl rfl rfl ?_
    refine JL.pure rfl rfl ?_
    refine JL.loadB 3 H rfl sh54 rfl rfl rfl ?_
    refine JL.call fb43 rfl rfl (grow_c g lv (.slice aa a.length ac) a p _ (hl.grow H.below) (ha.grow H.below)) ?_
    rintro _ w8 ⟨gx, rfl, K⟩
    have H := H.join K
    refine ⟨_, rfl, ?_⟩
    refine JL.pure rfl rfl ?_
    refine JL.pure rfl rfl ?_
    refine JL.pure rfl rfl ?_
    refine JL.pure rfl rfl ?_
    refine JL.pure rfl rfl ?_
    refine JL.pure rfl rfl ?_
    refine JL.pure rfl rfl ?_
    refine JL.nil ?_
    ((repeat refine Ex.normal_block ?_); refine Ex.next ?_)
    ((repeat refine JC.seq ?_); refine JC.region ?_)
    refine JL.loadB 5 H rfl sh52 rfl rfl rfl ?_
    refine JL.pure rfl rfl ?_
    refine JL.loadB 4 H rfl sh54 rfl rfl rfl ?_
    refine JL.call fb43 rfl rfl (grow_c g lv yv bo p _ (hl.grow H.below) (runSl H (j := 1) rfl (by have := hbl; omega))) ?_
    rintro _ w9 ⟨gy, rfl, K⟩
    have H := H.join K
    refine ⟨_, rfl, ?_⟩
    refine JL.pure rfl rfl ?_
    refine JL.pure rfl rfl ?_
    refine JL.pure rfl rfl ?_
    refine JL.pure rfl rfl ?_
    refine JL.pure rfl rfl ?_
    refine JL.pure rfl rfl ?_
    refine JL.pure rfl rfl ?_
    refine JL.nil ?_
    ((repeat refine Ex.normal_block ?_); refine Ex.next ?_)
    ((repeat refine JC.seq ?_); refine JC.regionTo ([(1, (.slice aa a.length ac)), (5, .pointer (some ⟨b5, 0, none⟩)), (8, .pointer (some ⟨b8, 0, none⟩)), (9, .pointer (some ⟨b9, 0, none⟩)), (11, .bool true), (13, .int .i64 (bothR g a b).2), (14, gx), (15, .bool (growR g a p).2.1), (16, .int .i64 (growR g a p).2.2), (17, gy), (74, .bool (decide (¬((bothR g a b).2 = 0 ∧ (growR g a p).2.2 = 0 ∧ (growR g bo p).2.2 = 0))))]) (fun wr => Own w wr [runRow gy (growR g bo p).1, runRow gx (growR g a p).1, runRow yv bo, blk b35 (.cells ⟨[(.slice aa a.length ac), (.slice ba b.length bc)]⟩ 50 (0, 0)), blk b9 (.cells ⟨[.int .i64 q.Low.X, .int .i64 q.Low.Y, .int .i64 q.High.X, .int .i64 q.High.Y]⟩ 54 (0, 0)), blk b8 (.cells ⟨[.int .i64 p.Low.X, .int .i64 p.Low.Y, .int .i64 p.High.X, .int .i64 p.High.Y]⟩ 54 (0, 0)), blk b5 (.cells ⟨[.int .i64 g.W, .int .i64 g.H, .int .i64 g.S, lv]⟩ 52 (0, 0))]) ?_ ?_)
    ·
      refine JL.pure rfl rfl ?_
      refine JL.pure rfl rfl ?_
      refine JL.pure rfl rfl ?_
      refine JL.cases 67 rfl ?_ ?_
      · intro h67
        (try simp only [Bool.not_eq_true', Bool.not_eq_false', decide_eq_true_eq, decide_eq_false_iff_not] at h67)
        refine JL.pass rfl rfl rfl rfl ?_
        refine JL.pass rfl rfl rfl rfl ?_
        refine JL.pure rfl rfl ?_
        refine JL.pure rfl rfl ?_
        refine JL.pass rfl rfl rfl rfl ?_
        refine JL.pass rfl rfl rfl rfl ?_
        refine JL.pure rfl rfl ?_
        refine JL.nil ?_
        refine Ex.to ⟨rfl, rfl, rfl, rfl, rfl, rfl, rfl, rfl, rfl, rfl, ?_, trivial⟩ H
        show some (Value.bool _) = some (Value.bool _)
        congr 2
        rw [Bool.eq_iff_iff, decide_eq_true_eq]
        first | (simp only [true_iff]; omega) | (simp only [decide_eq_true_eq]; omega)
      · intro h67
        (try simp only [Bool.not_eq_true', Bool.not_eq_false', decide_eq_true_eq, decide_eq_false_iff_not] at h67)
        refine JL.want rfl rfl ?_
        refine JL.pure rfl rfl ?_
        refine JL.want rfl rfl ?_
        refine JL.pure rfl rfl ?_
        refine JL.pure rfl rfl ?_
        refine JL.pure rfl rfl ?_
        refine JL.cases 71 rfl ?_ ?_
        · intro h71
          (try simp only [Bool.not_eq_true', Bool.not_eq_false', decide_eq_true_eq, decide_eq_false_iff_not] at h71)
          refine JL.pass rfl rfl rfl rfl ?_
          refine JL.pass rfl rfl rfl rfl ?_
          refine JL.pure rfl rfl ?_
          refine JL.nil ?_
          refine Ex.to ⟨rfl, rfl, rfl, rfl, rfl, rfl, rfl, rfl, rfl, rfl, ?_, trivial⟩ H
          show some (Value.bool _) = some (Value.bool _)
          congr 2
          rw [Bool.eq_iff_iff, decide_eq_true_eq]
          first | (simp only [true_iff]; omega) | (simp only [decide_eq_true_eq]; omega)
        · intro h71
          (try simp only [Bool.not_eq_true', Bool.not_eq_false', decide_eq_true_eq, decide_eq_false_iff_not] at h71)
          refine JL.want rfl rfl ?_
          refine JL.pure rfl rfl ?_
          refine JL.want rfl rfl ?_
          refine JL.pure rfl rfl ?_
          refine JL.pure rfl rfl ?_
          refine JL.nil ?_
          refine Ex.to ⟨rfl, rfl, rfl, rfl, rfl, rfl, rfl, rfl, rfl, rfl, ?_, trivial⟩ H
          show some (Value.bool _) = some (Value.bool _)
          congr 2
          rw [Bool.eq_iff_iff, decide_eq_true_eq]
          first | (simp only [true_iff]; omega) | (simp only [decide_eq_true_eq]; omega)
    · intro wc H
      ((repeat refine Ex.normal_block ?_); refine Ex.next ?_)
      ((repeat refine JC.seq ?_); refine JC.cond rfl ?_ ?_)
      · intro h74
        (try simp only [Bool.not_eq_true', Bool.not_eq_false', decide_eq_true_eq, decide_eq_false_iff_not] at h74)
        have hE : (bothR g a b).2 = 2 ∨ (growR g a p).2.2 = 2 := by
          rcases hlaw with h | h
          · exact absurd ⟨h.1, h.2.1, h.2.2.1⟩ h74
          · exact h.2
        ((repeat refine JC.seq ?_); refine JC.region ?_)
        refine JL.pure rfl rfl ?_
        refine JL.pure rfl rfl ?_
        refine JL.want rfl rfl ?_
        refine JL.pure rfl rfl ?_
        refine JL.want rfl rfl ?_
        refine JL.pure rfl rfl ?_
        refine JL.want rfl rfl ?_
        refine JL.pure rfl rfl ?_
        refine JL.cases 79 rfl ?_ ?_
        · intro h79
          (try simp only [Bool.not_eq_true', Bool.not_eq_false', decide_eq_true_eq, decide_eq_false_iff_not] at h79)
          refine JL.pass rfl rfl rfl rfl ?_
          refine JL.pass rfl rfl rfl rfl ?_
          refine JL.want rfl rfl ?_
          refine JL.pure rfl rfl ?_
          refine JL.pure rfl rfl ?_
          refine JL.pure rfl rfl ?_
          refine JL.nil ?_
          ((repeat refine Ex.normal_block ?_); refine Ex.next ?_)
          ((repeat refine JC.seq ?_); refine JC.ret ?_)
          (repeat (first | refine Ex.ret_then ?_ | refine Ex.ret_block ?_))
          refine Ex.ret1 rfl (.tmp rfl) ⟨?_, H.below⟩
          rfl
        · intro h79
          (try simp only [Bool.not_eq_true', Bool.not_eq_false', decide_eq_true_eq, decide_eq_false_iff_not] at h79)
          refine JL.want rfl rfl ?_
          refine JL.pure rfl rfl ?_
          refine JL.want rfl rfl ?_
          refine JL.pure rfl rfl ?_
          refine JL.want rfl rfl ?_
          refine JL.pure rfl rfl ?_
          refine JL.pure rfl rfl ?_
          refine JL.pure rfl rfl ?_
          refine JL.nil ?_
          ((repeat refine Ex.normal_block ?_); refine Ex.next ?_)
          ((repeat refine JC.seq ?_); refine JC.ret ?_)
          (repeat (first | refine Ex.ret_then ?_ | refine Ex.ret_block ?_))
          refine Ex.ret1 rfl (.tmp rfl) ⟨?_, H.below⟩
          have : (growR g a p).2.2 = 2 := hE.resolve_left h79
          simp [this]
      · intro h74
        (try simp only [Bool.not_eq_true', Bool.not_eq_false', decide_eq_true_eq, decide_eq_false_iff_not] at h74)
        obtain ⟨k1, k2, k3, k4, k5, k6⟩ := hlaw.resolve_right (fun h => h74 h.1)
        have txl := growR_tame hs a p
        have tyl := growR_tame hs bo p
        have tzl := growR_tame hs a (p.wide q)
        have tol := growR_tame hs a (p.sum q)
        have ttl := growR_tame hs (growR g a p).1 q
        ((repeat refine JC.seq ?_); refine JC.skip ?_)
        ((repeat refine Ex.normal_block ?_); refine Ex.next ?_)
        ((repeat refine JC.seq ?_); refine JC.region ?_)
        refine JL.fieldAddr rfl Try.underlying54 rfl sh23 rfl ?_
        refine JL.fieldAddr rfl Try.underlying23 rfl sh3 rfl ?_
        refine JL.loadB 5 H rfl sh3 rfl rfl rfl ?_
        refine JL.fieldAddr rfl Try.underlying54 rfl sh23 rfl ?_
        refine JL.fieldAddr rfl Try.underlying23 rfl sh3 rfl ?_
        refine JL.loadB 4 H rfl sh3 rfl rfl rfl ?_
        refine JL.pure rfl rfl ?_
        refine JL.fieldAddr rfl Try.underlying54 rfl sh23 rfl ?_
        refine JL.fieldAddr rfl Try.underlying23 rfl sh3 rfl ?_
        refine JL.loadB 5 H rfl sh3 rfl rfl rfl ?_
        refine JL.fieldAddr rfl Try.underlying54 rfl sh23 rfl ?_
        refine JL.fieldAddr rfl Try.underlying23 rfl sh3 rfl ?_
        refine JL.loadB 4 H rfl sh3 rfl rfl rfl ?_
        refine JL.pure rfl rfl ?_
        refine JL.build s23 rfl rfl ?_
        refine JL.fieldAddr rfl Try.underlying54 rfl sh23 rfl ?_
        refine JL.fieldAddr rfl Try.underlying23 rfl sh3 rfl ?_
        refine JL.loadB 5 H rfl sh3 rfl rfl rfl ?_
        refine JL.fieldAddr rfl Try.underlying54 rfl sh23 rfl ?_
        refine JL.fieldAddr rfl Try.underlying23 rfl sh3 rfl ?_
        refine JL.loadB 4 H rfl sh3 rfl rfl rfl ?_
        refine JL.pure rfl rfl ?_
        refine JL.fieldAddr rfl Try.underlying54 rfl sh23 rfl ?_
        refine JL.fieldAddr rfl Try.underlying23 rfl sh3 rfl ?_
        refine JL.loadB 5 H rfl sh3 rfl rfl rfl ?_
        refine JL.fieldAddr rfl Try.underlying54 rfl sh23 rfl ?_
        refine JL.fieldAddr rfl Try.underlying23 rfl sh3 rfl ?_
        refine JL.loadB 4 H rfl sh3 rfl rfl rfl ?_
        refine JL.pure rfl rfl ?_
        refine JL.build s23 rfl rfl ?_
        refine JL.build s54 rfl rfl ?_
        refine JL.alloc H z54 rfl ?_
        intro b20 w10 H
        refine JL.storeB 0 H rfl rfl sh54 rfl rfl rfl rfl rfl ?_
        intro w11 H
        refine JL.nil ?_
        ((repeat refine Ex.normal_block ?_); refine Ex.next ?_)
        ((repeat refine JC.seq ?_); refine JC.region ?_)
        refine JL.loadB 7 H rfl sh52 rfl rfl rfl ?_
        refine JL.pure rfl rfl ?_
        refine JL.loadB 0 H rfl sh54 rfl rfl rfl ?_
        refine JL.call fb43 rfl rfl (grow_c g lv (.slice aa a.length ac) a (p.wide q) _ (hl.grow H.below) (ha.grow H.below)) ?_
        rintro _ w12 ⟨gz, rfl, K⟩
        have H := H.join K
        refine ⟨_, rfl, ?_⟩
        refine JL.pure rfl rfl ?_
        refine JL.pure rfl rfl ?_
        refine JL.pure rfl rfl ?_
        refine JL.pure rfl rfl ?_
        refine JL.pure rfl rfl ?_
        refine JL.pure rfl rfl ?_
        refine JL.pure rfl rfl ?_
        refine JL.nil ?_
        ((repeat refine Ex.normal_block ?_); refine Ex.next ?_)
        ((repeat refine JC.seq ?_); refine JC.regionTo ([(1, (.slice aa a.length ac)), (5, .pointer (some ⟨b5, 0, none⟩)), (8, .pointer (some ⟨b8, 0, none⟩)), (9, .pointer (some ⟨b9, 0, none⟩)), (11, .bool true), (13, .int .i64 (bothR g a b).2), (14, gx), (15, .bool (growR g a p).2.1), (16, .int .i64 (growR g a p).2.2), (17, gy), (136, .bool false)]) (fun wr => Own w wr [runRow gz (growR g a (p.wide q)).1, blk b20 (.cells ⟨[.int .i64 (min p.Low.X q.Low.X), .int .i64 (min p.Low.Y q.Low.Y), .int .i64 (max p.High.X q.High.X), .int .i64 (max p.High.Y q.High.Y)]⟩ 54 (0, 0)), runRow gy (growR g bo p).1, runRow gx (growR g a p).1, runRow yv bo, blk b35 (.cells ⟨[(.slice aa a.length ac), (.slice ba b.length bc)]⟩ 50 (0, 0)), blk b9 (.cells ⟨[.int .i64 q.Low.X, .int .i64 q.Low.Y, .int .i64 q.High.X, .int .i64 q.High.Y]⟩ 54 (0, 0)), blk b8 (.cells ⟨[.int .i64 p.Low.X, .int .i64 p.Low.Y, .int .i64 p.High.X, .int .i64 p.High.Y]⟩ 54 (0, 0)), blk b5 (.cells ⟨[.int .i64 g.W, .int .i64 g.H, .int .i64 g.S, lv]⟩ 52 (0, 0))]) ?_ ?_)
        ·
          refine JL.pure rfl rfl ?_
          refine JL.pure rfl rfl ?_
          refine JL.callP H fb44 rfl rfl (part_c _ _ (growR g bo p).1 (growR g a p).1 _ (runSl H (j := 2) rfl (by have := growR_len g bo p; omega)) (runSl H (j := 3) rfl (by have := growR_len g a p; omega)) tyl txl) ?_
          intro w13 H _
          refine JL.pure rfl rfl ?_
          refine JL.re 126 rfl (v' := .bool false) (by rw [k4]; rfl) ?_
          refine JL.pure rfl rfl ?_
          refine JL.want rfl rfl ?_
          refine JL.pure rfl rfl ?_
          refine JL.want rfl rfl ?_
          refine JL.pure rfl rfl ?_
          refine JL.want rfl rfl ?_
          refine JL.pure rfl rfl ?_
          refine JL.cases 130 rfl ?_ ?_
          · intro h130
            (try simp only [Bool.not_eq_true', Bool.not_eq_false', decide_eq_true_eq, decide_eq_false_iff_not] at h130)
            have hi : (growR g a (p.wide q)).2.2 = 0 := by simpa using h130
            refine JL.want rfl rfl ?_
            refine JL.pure rfl rfl ?_
            refine JL.want rfl rfl ?_
            refine JL.pure rfl rfl ?_
            refine JL.want rfl rfl ?_
            refine JL.callP H fb44 rfl rfl (part_c _ _ (growR g a p).1 (growR g a (p.wide q)).1 _ (runSl H (j := 3) rfl (by have := growR_len g a p; omega)) (runSl H (j := 0) rfl (by have := growR_len g a (p.wide q); omega)) txl tzl) ?_
            intro w14 H _
            refine JL.want rfl rfl ?_
            refine JL.pure rfl rfl ?_
            refine JL.re 134 rfl (v' := .bool false) (by rw [k5 hi]; rfl) ?_
            refine JL.want rfl rfl ?_
            refine JL.pure rfl rfl ?_
            refine JL.pure rfl rfl ?_
            refine JL.nil ?_
            exact Ex.to ⟨rfl, rfl, rfl, rfl, rfl, rfl, rfl, rfl, rfl, rfl, rfl, trivial⟩ H
          · intro h130
            (try simp only [Bool.not_eq_true', Bool.not_eq_false', decide_eq_true_eq, decide_eq_false_iff_not] at h130)
            
            refine JL.pass rfl rfl rfl rfl ?_
            refine JL.pass rfl rfl rfl rfl ?_
            refine JL.pass rfl rfl rfl rfl ?_
            refine JL.pass rfl rfl rfl rfl ?_
            refine JL.want rfl rfl ?_
            refine JL.pure rfl rfl ?_
            refine JL.pure rfl rfl ?_
            refine JL.nil ?_
            exact Ex.to ⟨rfl, rfl, rfl, rfl, rfl, rfl, rfl, rfl, rfl, rfl, rfl, trivial⟩ H
        · intro wc H
          ((repeat refine Ex.normal_block ?_); refine Ex.next ?_)
          ((repeat refine JC.seq ?_); refine JC.cond rfl (fun h => by cases h) (fun _ => ?_))
          ((repeat refine JC.seq ?_); refine JC.skip ?_)
          ((repeat refine Ex.normal_block ?_); refine Ex.next ?_)
          ((repeat refine JC.seq ?_); refine JC.region ?_)
          refine JL.fieldAddr rfl Try.underlying54 rfl sh23 rfl ?_
          refine JL.fieldAddr rfl Try.underlying23 rfl sh3 rfl ?_
          refine JL.loadB 7 H rfl sh3 rfl rfl rfl ?_
          refine JL.fieldAddr rfl Try.underlying54 rfl sh23 rfl ?_
          refine JL.fieldAddr rfl Try.underlying23 rfl sh3 rfl ?_
          refine JL.loadB 6 H rfl sh3 rfl rfl rfl ?_
          refine JL.pure rfl rfl ?_
          refine JL.fieldAddr rfl Try.underlying54 rfl sh23 rfl ?_
          refine JL.fieldAddr rfl Try.underlying23 rfl sh3 rfl ?_
          refine JL.loadB 7 H rfl sh3 rfl rfl rfl ?_
          refine JL.fieldAddr rfl Try.underlying54 rfl sh23 rfl ?_
          refine JL.fieldAddr rfl Try.underlying23 rfl sh3 rfl ?_
          refine JL.loadB 6 H rfl sh3 rfl rfl rfl ?_
          refine JL.pure rfl rfl ?_
          refine JL.build s23 rfl rfl ?_
          refine JL.fieldAddr rfl Try.underlying54 rfl sh23 rfl ?_
          refine JL.fieldAddr rfl Try.underlying23 rfl sh3 rfl ?_
          refine JL.loadB 7 H rfl sh3 rfl rfl rfl ?_
          refine JL.fieldAddr rfl Try.underlying54 rfl sh23 rfl ?_
          refine JL.fieldAddr rfl Try.underlying23 rfl sh3 rfl ?_
          refine JL.loadB 6 H rfl sh3 rfl rfl rfl ?_
          refine JL.pure rfl rfl ?_
          refine JL.fieldAddr rfl Try.underlying54 rfl sh23 rfl ?_
          refine JL.fieldAddr rfl Try.underlying23 rfl sh3 rfl ?_
          refine JL.loadB 7 H rfl sh3 rfl rfl rfl ?_
          refine JL.fieldAddr rfl Try.underlying54 rfl sh23 rfl ?_
          refine JL.fieldAddr rfl Try.underlying23 rfl sh3 rfl ?_
          refine JL.loadB 6 H rfl sh3 rfl rfl rfl ?_
          refine JL.pure rfl rfl ?_
          refine JL.build s23 rfl rfl ?_
          refine JL.build s54 rfl rfl ?_
          refine JL.alloc H z54 rfl ?_
          intro b24 w15 H
          refine JL.storeB 0 H rfl rfl sh54 rfl rfl rfl rfl rfl ?_
          intro w16 H
          refine JL.nil ?_
          ((repeat refine Ex.normal_block ?_); refine Ex.next ?_)
          ((repeat refine JC.seq ?_); refine JC.region ?_)
          refine JL.loadB 9 H rfl sh52 rfl rfl rfl ?_
          refine JL.pure rfl rfl ?_
          refine JL.loadB 7 H rfl sh54 rfl rfl rfl ?_
          refine JL.call fb43 rfl rfl (grow_c g lv gx (growR g a p).1 q _ (hl.grow H.below) (runSl H (j := 4) rfl (by have := growR_len g a p; omega))) ?_
          rintro _ w17 ⟨gt, rfl, K⟩
          have H := H.join K
          refine ⟨_, rfl, ?_⟩
          refine JL.pure rfl rfl ?_
          refine JL.pure rfl rfl ?_
          refine JL.pure rfl rfl ?_
          refine JL.pure rfl rfl ?_
          refine JL.pure rfl rfl ?_
          refine JL.pure rfl rfl ?_
          refine JL.pure rfl rfl ?_
          refine JL.nil ?_
          ((repeat refine Ex.normal_block ?_); refine Ex.next ?_)
          ((repeat refine JC.seq ?_); refine JC.region ?_)
          refine JL.loadB 10 H rfl sh52 rfl rfl rfl ?_
          refine JL.pure rfl rfl ?_
          refine JL.loadB 1 H rfl sh54 rfl rfl rfl ?_
          refine JL.call fb43 rfl rfl (grow_c g lv (.slice aa a.length ac) a (p.sum q) _ (hl.grow H.below) (ha.grow H.below)) ?_
          rintro _ w18 ⟨go, rfl, K⟩
          have H := H.join K
          refine ⟨_, rfl, ?_⟩
          refine JL.pure rfl rfl ?_
          refine JL.pure rfl rfl ?_
          refine JL.pure rfl rfl ?_
          refine JL.pure rfl rfl ?_
          refine JL.pure rfl rfl ?_
          refine JL.pure rfl rfl ?_
          refine JL.pure rfl rfl ?_
          refine JL.nil ?_
          ((repeat refine Ex.normal_block ?_); refine Ex.next ?_)
          ((repeat refine JC.seq ?_); refine JC.region ?_)
          refine JL.pure rfl rfl ?_
          refine JL.pure rfl rfl ?_
          refine JL.want rfl rfl ?_
          refine JL.pure rfl rfl ?_
          refine JL.want rfl rfl ?_
          refine JL.pure rfl rfl ?_
          refine JL.cases 187 rfl ?_ ?_
          · intro h187
            (try simp only [Bool.not_eq_true', Bool.not_eq_false', decide_eq_true_eq, decide_eq_false_iff_not] at h187)
            refine JL.pass rfl rfl rfl rfl ?_
            refine JL.pass rfl rfl rfl rfl ?_
            refine JL.want rfl rfl ?_
            refine JL.pure rfl rfl ?_
            refine JL.want rfl rfl ?_
            refine JL.pure rfl rfl ?_
            refine JL.pass rfl rfl rfl rfl ?_
            refine JL.pass rfl rfl rfl rfl ?_
            refine JL.want rfl rfl ?_
            refine JL.pure rfl rfl ?_
            refine JL.want rfl rfl ?_
            refine JL.pure rfl rfl ?_
            refine JL.pass rfl rfl rfl rfl ?_
            refine JL.pass rfl rfl rfl rfl ?_
            refine JL.pass rfl rfl rfl rfl ?_
            refine JL.want rfl rfl ?_
            refine JL.pure rfl rfl ?_
            refine JL.pure rfl rfl ?_
            refine JL.pure rfl rfl ?_
            refine JL.nil ?_
            ((repeat refine Ex.normal_block ?_); refine Ex.next ?_)
            ((repeat refine JC.seq ?_); refine JC.ret ?_)
            (repeat (first | refine Ex.ret_then ?_ | refine Ex.ret_block ?_))
            refine Ex.ret1 rfl (.tmp rfl) ⟨?_, H.below⟩
            rfl
          · intro h187
            (try simp only [Bool.not_eq_true', Bool.not_eq_false', decide_eq_true_eq, decide_eq_false_iff_not] at h187)
            refine JL.want rfl rfl ?_
            refine JL.pure rfl rfl ?_
            refine JL.want rfl rfl ?_
            refine JL.pure rfl rfl ?_
            refine JL.want rfl rfl ?_
            refine JL.pure rfl rfl ?_
            refine JL.want rfl rfl ?_
            refine JL.pure rfl rfl ?_
            refine JL.cases 191 rfl ?_ ?_
            · intro h191
              (try simp only [Bool.not_eq_true', Bool.not_eq_false', decide_eq_true_eq, decide_eq_false_iff_not] at h191)
              refine JL.pass rfl rfl rfl rfl ?_
              refine JL.pass rfl rfl rfl rfl ?_
              refine JL.want rfl rfl ?_
              refine JL.pure rfl rfl ?_
              refine JL.want rfl rfl ?_
              refine JL.pure rfl rfl ?_
              refine JL.pass rfl rfl rfl rfl ?_
              refine JL.pass rfl rfl rfl rfl ?_
              refine JL.pass rfl rfl rfl rfl ?_
              refine JL.want rfl rfl ?_
              refine JL.pure rfl rfl ?_
              refine JL.pure rfl rfl ?_
              refine JL.pure rfl rfl ?_
              refine JL.nil ?_
              ((repeat refine Ex.normal_block ?_); refine Ex.next ?_)
              ((repeat refine JC.seq ?_); refine JC.ret ?_)
              (repeat (first | refine Ex.ret_then ?_ | refine Ex.ret_block ?_))
              refine Ex.ret1 rfl (.tmp rfl) ⟨?_, H.below⟩
              rfl
            · intro h191
              (try simp only [Bool.not_eq_true', Bool.not_eq_false', decide_eq_true_eq, decide_eq_false_iff_not] at h191)
              refine JL.want rfl rfl ?_
              refine JL.pure rfl rfl ?_
              refine JL.want rfl rfl ?_
              refine JL.pure rfl rfl ?_
              refine JL.want rfl rfl ?_
              refine JL.pure rfl rfl ?_
              refine JL.want rfl rfl ?_
              refine JL.pure rfl rfl ?_
              refine JL.cases 195 rfl ?_ ?_
              · intro h195
                (try simp only [Bool.not_eq_true', Bool.not_eq_false', decide_eq_true_eq, decide_eq_false_iff_not] at h195)
                refine JL.pass rfl rfl rfl rfl ?_
                refine JL.pass rfl rfl rfl rfl ?_
                refine JL.pass rfl rfl rfl rfl ?_
                refine JL.want rfl rfl ?_
                refine JL.pure rfl rfl ?_
                refine JL.pure rfl rfl ?_
                refine JL.pure rfl rfl ?_
                refine JL.nil ?_
                ((repeat refine Ex.normal_block ?_); refine Ex.next ?_)
                ((repeat refine JC.seq ?_); refine JC.ret ?_)
                (repeat (first | refine Ex.ret_then ?_ | refine Ex.ret_block ?_))
                refine Ex.ret1 rfl (.tmp rfl) ⟨?_, H.below⟩
                rfl
              · intro h195
                (try simp only [Bool.not_eq_true', Bool.not_eq_false', decide_eq_true_eq, decide_eq_false_iff_not] at h195)
                refine JL.want rfl rfl ?_
                refine JL.pure rfl rfl ?_
                refine JL.want rfl rfl ?_
                refine JL.pure rfl rfl ?_
                refine JL.want rfl rfl ?_
                refine JL.callP H fb44 rfl rfl (part_c _ _ (growR g a (p.sum q)).1 (growR g (growR g a p).1 q).1 _ (runSl H (j := 0) rfl (by have := growR_len g a (p.sum q); omega)) (runSl H (j := 1) rfl (by have := growR_len g (growR g a p).1 q; omega)) tol ttl) ?_
                intro w19 H _
                refine JL.want rfl rfl ?_
                refine JL.pure rfl rfl ?_
                refine JL.pure rfl rfl ?_
                refine JL.pure rfl rfl ?_
                refine JL.nil ?_
                ((repeat refine Ex.normal_block ?_); refine Ex.next ?_)
                ((repeat refine JC.seq ?_); refine JC.ret ?_)
                (repeat (first | refine Ex.ret_then ?_ | refine Ex.ret_block ?_))
                refine Ex.ret1 rfl (.tmp rfl) ⟨?_, H.below⟩
                have : partB (growR g a (p.sum q)).1 (growR g (growR g a p).1 q).1 = true := by
                  rcases k6 with h | h | h | h
                  · rw [h187] at h; cases h
                  · exact absurd (by simpa using h191) h
                  · exact absurd (by simpa using h195) h
                  · exact h
                rw [this]
end Go.J

namespace Go.J
set_option linter.unusedSimpArgs false
set_option linter.unusedVariables false
open Go.RowKit
/-! ## ranging over functions -/
/-- a call of yield -/
def YieldW (P : Program) (l : Nat) (vs : List Value) (w : World) (R : Ending → World → Prop) : Prop := YieldAt Fence.wide 0 P l vs.toArray w R
theorem roundIn_ro {P : Program} {l : Nat} {f : FuncId} {tmps : Array Value} {assign body : Code} {w : World} {R : Ending → World → Prop} (ro : Option Nat) (h : RoundIn Fence.wide 0 P l f tmps assign body w R) : RoundIn (wideR ro) 0 P l f tmps assign body w R := h
section
variable {P : Program} {N : Sz} {ops : Array Oper} {Q : Exit → Act → World → Prop} {rest : List Oper} {fr : Fr} {w w0 : World} {L : List HP}
  {d : Option Tmp} {ty : TypeId} {pos : String} {af : Array Edge}
theorem JL.yield {x : Operand} {l : Nat} {xs : Array Operand} {tys : Array TypeId} {vs : List Value} {R : Ending → World → Prop} (hf : fr.ev x = some (.func (.yield l) #[] #[])) (hx : fr.evs xs.toList = some vs) (hd : Fr.fits N d = true)
    (hy : YieldW P l vs w R) (k : ∀ e w', R e w' → ∃ v, e = .returned v ∧ JL P N ops Q rest (fr.put d v) w') : JL P N ops Q (⟨d, .call ⟨.value x, xs, tys⟩, ty, pos, af, none⟩ :: rest) fr w := by
  intro a H
  obtain ⟨fn, tmps, assign, body, hrun, hR⟩ := hy
  refine wpListIn_plain rfl fun K hK => ⟨fun _ _ => trivial, ?_⟩
  show Oper.uponIn (wideR N.ro) 0 P _ a K Q ((Oper.semAt N.ro a.eval _).run P w)
  have h1 : (xs.map a.eval) = vs.toArray := by
    apply Array.ext'
    rw [Array.toList_map, H.evs hx]
  have hex : (execOp a.eval ⟨d, .call ⟨.value x, xs, tys⟩, ty, pos, af, none⟩).run P w = .ok (.round l fn tmps assign body) w := by
    simp only [execOp, resolve]
    simp [H.eval hf, Deferred.ofValue, h1, invoke, hrun]
  rw [semAt_run hex (by simp)]
  refine ⟨fun h => by simp [wideR] at h, roundIn_ro N.ro (hR.mono fun e w' he => ?_)⟩
  obtain ⟨v, rfl, hk⟩ := k e w' he
  exact hK _ _ (hk _ (H.putO hd v))
end
/-- what a function that is ranged over does: items: what it yields; A: memory of its own from before; Rd: what it reads and the rounds keep -/
def Iter (P : Program) (gf : FuncId) (lb : List Value) {α : Type} (vs : α → List Value) (items : List α) (w0 : World) (A : List HP) (Rd : World → Prop) : Prop :=
  ∀ (l : Nat) (T Tx : List α → List HP → Prop), (∀ pre L X w, T pre L → Own w0 w (X ++ L) → Rd w) →
    (∀ pre x L X w, pre ++ [x] <+: items → T pre L → Own w0 w (X ++ L) → YieldW P l (vs x) w fun e w' => ∃ (b : Bool) (L' : List HP), e = .returned (.bool b) ∧ (if b then T else Tx) (pre ++ [x]) L' ∧ Own w0 w' (X ++ L')) →
    ∀ w L X, T [] L → Own w0 w (A ++ (X ++ L)) → Calls P gf (.func (.yield l) #[] #[] :: lb).toArray w fun e w' => (∃ v, e = .returned v) ∧ ∃ L', Own w0 w' (X ++ L') ∧ (T items L' ∨ ∃ pre, pre <+: items ∧ Tx pre L')
/-- how a round's body may be left -/
def rdPost {α : Type} (S : List α → List HP → Prop) (SX : Code → List α → List HP → Prop) (xs : List α) (w0 : World) (X : List HP) : Exit → Act → World → Prop
  | .normal, _, w' => ∃ L', S xs L' ∧ Own w0 w' (X ++ L')
  | .ret, _, w' => ∃ L', SX .ret xs L' ∧ Own w0 w' (X ++ L')
  | .exit id, _, w' => ∃ L', SX (.exit id) xs L' ∧ Own w0 w' (X ++ L')
  | _, _, _ => False
def Fr.puts : List Tmp → List Value → Fr → Fr
  | t :: ts, v :: vs, fr => Fr.puts ts vs ((t, v) :: fr)
  | _, _, fr => fr
theorem Has.puts {N : Sz} : ∀ {ts : List Tmp} {vs : List Value} {fr : Fr} {tmps : Array Value} {ds : List Deferred}, Has N fr ⟨tmps, ds⟩ → ts.all (fun t => Nat.ble (t + 1) N.n) = true →
    Has N (fr.puts ts vs) ⟨(ts.zip vs).foldl (fun t (p : Tmp × Value) => t.setIfInBounds p.1 p.2) tmps, ds⟩ := by
  intro ts
  induction ts with
  | nil => intro vs fr tmps ds H _; exact H
  | cons t ts ih =>
    intro vs fr tmps ds H h
    simp only [List.all_cons, Bool.and_eq_true] at h
    cases vs with
    | nil => exact H
    | cons v vs =>
      simp only [List.zip_cons_cons, List.foldl_cons]
      exact ih (H.put (d := t) (Nat.le_of_ble_eq_true h.1) v) h.2
theorem Own.putAt {w0 w : World} {X M : List HP} {β : Nat} {o : Obj} (H : Own w0 w (X ++ blk β o :: M)) (o' : Obj) : w.heap[β]? = some o ∧ Own w0 (w.putObj β o') (X ++ blk β o' :: M) := by
  have H1 : Own w0 w (blk β o :: (X ++ M)) := H.perm List.perm_middle
  have hg := (H1.get (i := 0) rfl).2
  have H2 := H1.put (i := 0) (β := β) rfl o' (w' := w.putObj β o') rfl rfl rfl (by simp) (fun j hj _ => World.putObj_heap_other hj) (World.putObj_heap_same (Array.getElem?_eq_some_iff.1 hg).1)
  exact ⟨hg, H2.perm List.perm_middle.symm⟩
section
variable {P : Program} {N : Sz} {Q : Exit → Act → World → Prop} {fr : Fr} {w w0 : World}
theorem JC.rangeFunc {α ι : Type} {g : Operand} {ps : Array Tmp} {assign body : Code} {gf : FuncId} {lb : List Value} {vs : α → List Value} {items : List α} {A : List HP} {Rd : World → Prop}
    (hg : fr.ev g = some (.func (.func gf) #[] ⟨lb⟩)) (hb : hasBody P gf = true) (hit : Iter P gf lb vs items w0 A Rd) (hvs : ∀ x, (vs x).length = ps.size) (hps : ps.toList.all (fun t => Nat.ble (t + 1) N.n) = true)
    (S : List α → List HP → Prop) (SX : Code → List α → List HP → Prop) {L0 : List HP} (H : Own w0 w (A ++ L0)) (h0 : S [] L0) (hrd : ∀ pre L X w, S pre L → Own w0 w (X ++ L) → Rd w)
    (F : ι → α → Fr) (E : ι → α → List HP)
    (hassign : ∀ l pre x L X w, pre ++ [x] <+: items → S pre L → Own w0 w (X ++ L) → JC P ⟨N.n, [], some l⟩ assign (Exit.then (fun a1 w1 => ∃ i, Has ⟨N.n, [], some l⟩ (F i x) a1 ∧ Own w0 w1 (E i x ++ (X ++ L))) (fun _ _ _ => False)) (fr.puts ps.toList (vs x)) w)
    (hbody : ∀ l i pre x L X w, pre ++ [x] <+: items → S pre L → Own w0 w (E i x ++ (X ++ L)) → JC P ⟨N.n, [], some l⟩ body (rdPost S SX (pre ++ [x]) w0 X) (F i x) w)
    (hdone : ∀ D w' L, S items L → Own w0 w' (dfr D :: L) → Ex ⟨N.n, D :: N.ds, N.ro⟩ Q .normal fr w')
    (hstop : ∀ D c pre w' L, pre <+: items → SX c pre L → Own w0 w' (dfr D :: L) → JC P ⟨N.n, D :: N.ds, N.ro⟩ c Q fr w') (hro : N.ro = none := by rfl) : JC P N (.rangeFunc g ps assign body) Q fr w := by
  intro a Ha
  refine wpIn_rangeFunc fun fn _ => ?_
  have hro' : (wideR N.ro).round = none := hro
  rw [hro']
  obtain ⟨rec, hrec⟩ : ∃ rec : LoopState → Option Code → Loop, rec = fun st pe => { state := st, pending := pe, fn, tmps := a.tmps, params := ps, assign, body, defers := w.heap.size } := ⟨_, rfl⟩
  obtain ⟨l, hl⟩ : ∃ l, l = w.heap.size + 1 := ⟨_, rfl⟩
  obtain ⟨D, hD⟩ : ∃ D, D = w.heap.size := ⟨_, rfl⟩
  obtain ⟨W1, hW1⟩ : ∃ W1, W1 = (w.alloc (.deferred (some []))).alloc (.loop (rec .ready none)) := ⟨_, rfl⟩
  have H1 : Own w0 W1 (blk l (.loop (rec .ready none)) :: dfr D :: (A ++ L0)) := by
    rw [hW1, hl, hD]
    have h2 := (H.new (.deferred (some []))).new (.loop (rec .ready none))
    rw [World.size_alloc] at h2
    exact h2
  refine ⟨l, [mark D], W1, { target := .fn (.func gf) ⟨lb⟩, args := #[.func (.yield l) #[] #[]] }, W1, gf, (.func (.yield l) #[] #[] :: lb).toArray, W1, ?_, ?_, fun _ _ => trivial, ?_, fun h => by simp [wideR] at h, callsIn_wide.2 ?_⟩
  · rw [hW1, hrec, hl, hD]; exact run_enterLoop_outer _ _ _ _ _
  · simp only [resolve, Ha.eval hg]
    simp [go_sem, Deferred.ofValue, Act.eval]
  · simp [invoke, callFunc_run hb]
  have hc := hit l (fun pre L => ∃ L1, L = blk l (.loop (rec .ready none)) :: dfr D :: L1 ∧ S pre L1) (fun pre L => ∃ c L1, L = blk l (.loop (rec .done (some c))) :: dfr D :: L1 ∧ SX c pre L1) ?_ ?_ W1
    (blk l (.loop (rec .ready none)) :: dfr D :: L0) [] ⟨L0, rfl, h0⟩ (H1.perm ?_)
  · refine hc.mono ?_
    rintro e w' ⟨⟨v, rfl⟩, L', hO, hh⟩
    rcases hh with ⟨L1, rfl, hS⟩ | ⟨pre, hpre, c, L1, rfl, hS⟩
    · obtain ⟨hg', hO'⟩ := Own.putAt (X := []) hO (.loop { rec .ready none with state := .exhausted })
      refine ⟨_, _, run_endLoop hg' (by rw [hrec]; simp), ?_⟩
      subst hrec
      exact hdone D _ L1 hS ((show Own w0 _ _ from hO').drop 0) ⟨a.tmps, [mark D] ++ a.defers⟩ ⟨Ha.size, by show mark D :: a.defers = _; rw [Ha.defers]; rfl, Ha.get⟩
    · obtain ⟨hg', hO'⟩ := Own.putAt (X := []) hO (.loop { rec .done (some c) with state := .exhausted })
      refine ⟨_, _, run_endLoop hg' (by rw [hrec]; simp), ?_⟩
      subst hrec
      exact hstop D c pre _ L1 hpre hS ((show Own w0 _ _ from hO').drop 0) ⟨a.tmps, [mark D] ++ a.defers⟩ ⟨Ha.size, by show mark D :: a.defers = _; rw [Ha.defers]; rfl, Ha.get⟩
  · rintro pre L X w' ⟨L1, rfl, hS⟩ hO
    refine hrd pre L1 (X ++ [blk l (.loop (rec .ready none)), dfr D]) w' hS ?_
    rw [List.append_assoc]; exact hO
  · subst hrec
    rintro pre x L X w' hpx ⟨L1, rfl, hS⟩ hO
    have hg' := (hO.putAt (.loop { state := .ready, pending := none, fn, tmps := a.tmps, params := ps, assign, body, defers := w.heap.size })).1
    refine ⟨_, _, _, _, run_yield hg' (by simpa using hvs x), roundIn_of_wpIn (F := Fence.wide) trivial ?_⟩
    have hO1 := hO
    rw [show X ++ blk l _ :: dfr D :: L1 = (X ++ [blk l _, dfr D]) ++ L1 from by rw [List.append_assoc]; rfl] at hO1
    have hA := hassign l pre x L1 _ _ hpx hS hO1 ⟨(ps.toList.zip (vs x)).foldl (fun t (p : Tmp × Value) => t.setIfInBounds p.1 p.2) a.tmps, []⟩ (Has.puts (N := ⟨N.n, [], some l⟩) ⟨Ha.size, rfl, Ha.get⟩ hps)
    have hfold : (ps.zip (vs x).toArray).foldl (fun (tmps : Array Value) (x : Tmp × Value) => match x with | (t, a) => tmps.setIfInBounds t a) a.tmps = (ps.toList.zip (vs x)).foldl (fun t (p : Tmp × Value) => t.setIfInBounds p.1 p.2) a.tmps := by
      rw [← Array.foldl_toList, Array.toList_zip]
    rw [← hfold] at hA
    refine Code.wpIn_mono (fun e a1 w1 h1 => ?_) hA
    cases e <;> try exact h1.elim
    obtain ⟨i, Ha1, hO2⟩ := h1
    have hO3 : Own w0 w1 ((E i x ++ X) ++ blk l (.loop { state := .ready, pending := none, fn, tmps := a.tmps, params := ps, assign, body, defers := w.heap.size }) :: dfr D :: L1) := by
      have h := hO2
      rw [List.append_assoc X, ← List.append_assoc (E i x)] at h
      exact h
    obtain ⟨hg3, hO4⟩ := hO3.putAt (.loop { state := .busy, pending := none, fn, tmps := a.tmps, params := ps, assign, body, defers := w.heap.size })
    refine ⟨_, run_beginRound hg3 rfl, ?_⟩
    have hO5 : Own w0 (w1.putObj l (.loop { state := .busy, pending := none, fn, tmps := a.tmps, params := ps, assign, body, defers := w.heap.size })) (E i x ++ ((X ++ [blk l (.loop { state := .busy, pending := none, fn, tmps := a.tmps, params := ps, assign, body, defers := w.heap.size }), dfr D]) ++ L1)) := by
      rw [List.append_assoc X, ← List.append_assoc (E i x)]
      exact hO4
    have hJ := hbody l i pre x L1 _ _ hpx hS hO5 _ Ha1
    refine Code.wpIn_mono (fun e a' w2 hp => ?_) hJ
    have key : ∀ (jump : Option Code) (L' : List HP), Own w0 w2 ((X ++ [blk l (.loop { state := .busy, pending := none, fn, tmps := a.tmps, params := ps, assign, body, defers := w.heap.size }), dfr D]) ++ L') →
        ∃ w3, (Instr.endRound l jump).run P w2 = .ok (.bool jump.isNone) w3 ∧ Own w0 w3 (X ++ blk l (.loop { state := if jump.isNone then .ready else .done, pending := jump, fn, tmps := a.tmps, params := ps, assign, body, defers := w.heap.size }) :: dfr D :: L') := by
      intro jump L' hO3
      rw [List.append_assoc] at hO3
      obtain ⟨hg3, hO4⟩ := Own.putAt (M := dfr D :: L') hO3 (.loop { state := if jump.isNone then .ready else .done, pending := jump, fn, tmps := a.tmps, params := ps, assign, body, defers := w.heap.size })
      exact ⟨_, run_endRound jump hg3, hO4⟩
    cases e with
    | normal =>
      obtain ⟨L', hS', hO3⟩ := hp
      obtain ⟨w3, hr, hO4⟩ := key none L' hO3
      exact ⟨_, w3, hr, true, _, rfl, ⟨L', rfl, hS'⟩, hO4⟩
    | ret =>
      obtain ⟨L', hS', hO3⟩ := hp
      obtain ⟨w3, hr, hO4⟩ := key (some .ret) L' hO3
      exact ⟨_, w3, hr, false, _, rfl, ⟨.ret, L', rfl, hS'⟩, hO4⟩
    | exit id =>
      obtain ⟨L', hS', hO3⟩ := hp
      obtain ⟨w3, hr, hO4⟩ := key (some (.exit id)) L' hO3
      exact ⟨_, w3, hr, false, _, rfl, ⟨.exit id, L', rfl, hS'⟩, hO4⟩
    | goto t => exact hp.elim
    | panic c => exact hp.elim
    | outgrown => exact hp.elim
  · -- the order of what is ours
    simp only [List.nil_append]
    refine List.Perm.trans ?_ (List.perm_middle (l₁ := A)).symm
    refine List.Perm.cons _ ?_
    exact (List.perm_middle (l₁ := A)).symm
/-- the assignment's end -/
theorem Ex.asg {α ι : Type} {F : ι → α → Fr} {E : ι → α → List HP} {x : α} {M : List HP} {N' : Sz} {R : Exit → Act → World → Prop} (i : ι) (hs : fr.sub (F i x)) (H : Own w0 w (E i x ++ M)) :
    Ex N' (Exit.then (fun a1 w1 => ∃ i, Has N' (F i x) a1 ∧ Own w0 w1 (E i x ++ M)) R) .normal fr w := fun _ Ha => ⟨i, Ha.sub hs, H⟩
/-- the body's end -/
theorem Ex.round {α : Type} {S : List α → List HP → Prop} {SX : Code → List α → List HP → Prop} {xs : List α} {X : List HP} (L' : List HP) (hS : S xs L') (H : Own w0 w (X ++ L')) : Ex N (rdPost S SX xs w0 X) .normal fr w := fun _ _ => ⟨L', hS, H⟩
theorem Ex.roundRet {α : Type} {S : List α → List HP → Prop} {SX : Code → List α → List HP → Prop} {xs : List α} {X : List HP} (L' : List HP) (hS : SX .ret xs L') (H : Own w0 w (X ++ L')) : Ex N (rdPost S SX xs w0 X) .ret fr w := fun _ _ => ⟨L', hS, H⟩
theorem Ex.roundExit {α : Type} {S : List α → List HP → Prop} {SX : Code → List α → List HP → Prop} {xs : List α} {X : List HP} {id : Nat} (L' : List HP) (hS : SX (.exit id) xs L') (H : Own w0 w (X ++ L')) : Ex N (rdPost S SX xs w0 X) (.exit id) fr w := fun _ _ => ⟨L', hS, H⟩
end
end Go.J

namespace Go.J
open Go.RowKit Go.Proofs
set_option maxRecDepth 8000
set_option linter.unusedSimpArgs false
set_option linter.unusedVariables false
def Cell.cs (c : Cell) : List Value := [.int .i64 c.X, .int .i64 c.Y]
def cellRow (v : Value) (l : List Cell) : HP := trow 62 2 Cell.cs v l
/-- the cells of a run, of runs -/
def cellsRun (r : Run) : List Cell := (List.range (r.To - r.From).toNat).map fun (k : Nat) => (⟨r.From + k, r.Y⟩ : Cell)
def cellsAll (rs : List Run) : List Cell := rs.flatMap cellsRun
theorem cellsAll_take {rs : List Run} {k : Nat} (hk : k < rs.length) : cellsAll (rs.take (k + 1)) = cellsAll (rs.take k) ++ cellsRun rs[k] := by
  unfold cellsAll; rw [List.take_succ_eq_append_getElem hk, List.flatMap_append]; simp
theorem cellsRun_get (r : Run) (j : Nat) (hj : (j : Int) < r.To - r.From) : (cellsRun r)[j]? = some ⟨r.From + j, r.Y⟩ := by
  unfold cellsRun
  rw [List.getElem?_map, List.getElem?_range (by omega)]
  rfl
theorem cellsRun_len (r : Run) : (cellsRun r).length = (r.To - r.From).toNat := by simp [cellsRun]
theorem cells_prefix {rs : List Run} {k j : Nat} (hk : k < rs.length) (hj : (j : Int) < rs[k].To - rs[k].From) : (cellsAll (rs.take k) ++ (cellsRun rs[k]).take j) ++ [⟨rs[k].From + j, rs[k].Y⟩] <+: cellsAll rs := by
  have h1 : (cellsRun rs[k]).take (j + 1) = (cellsRun rs[k]).take j ++ [⟨rs[k].From + j, rs[k].Y⟩] := by
    rw [List.take_add_one, cellsRun_get _ j hj]; rfl
  rw [List.append_assoc, ← h1]
  have h2 : rs = rs.take k ++ rs[k] :: rs.drop (k + 1) := by rw [← List.drop_eq_getElem_cons hk, List.take_append_drop]
  refine ⟨(cellsRun rs[k]).drop (j + 1) ++ cellsAll (rs.drop (k + 1)), ?_⟩
  conv => rhs; rw [h2]
  unfold cellsAll
  rw [List.flatMap_append, List.flatMap_cons]
  simp only [List.append_assoc]
  congr 1
  rw [← List.append_assoc, List.take_append_drop]
theorem mem_cellsRun {r : Run} {c : Cell} : c ∈ cellsRun r ↔ r.Y = c.Y ∧ r.From ≤ c.X ∧ c.X < r.To := by
  unfold cellsRun
  rw [List.mem_map]
  constructor
  · rintro ⟨k, hk, rfl⟩
    rw [List.mem_range] at hk
    exact ⟨rfl, by simp only; omega, by simp only; omega⟩
  · rintro ⟨h1, h2, h3⟩
    refine ⟨(c.X - r.From).toNat, List.mem_range.2 (by omega), ?_⟩
    cases c
    simp only [Cell.mk.injEq] at *
    omega
theorem mem_cellsAll {rs : List Run} {c : Cell} : c ∈ cellsAll rs ↔ hasB rs c = true := by
  unfold cellsAll
  rw [List.mem_flatMap, hasB_iff]
  constructor
  · rintro ⟨r, hr, h⟩; exact ⟨r, hr, mem_cellsRun.1 h⟩
  · rintro ⟨r, hr, h⟩; exact ⟨r, hr, mem_cellsRun.2 h⟩
/-- cells$1 yields the cells of the runs that its box holds -/
theorem cells_iter (w0 : World) (b : Nat) (rv : Value) (rs : List Run) (ht : Tame rs) :
    Iter Try.prog 222 [.pointer (some ⟨b, 0, none⟩)] (fun c : Cell => [c.ev]) (cellsAll rs) w0 [] (fun w => LdAt w b 0 (false, 1) rv ∧ b < w.heap.size ∧ SlR w rv rs) := by
  intro l T Tx hrd hy w L X hT H
  replace H : Own w0 w (X ++ L) := H
  obtain ⟨a, cap, rfl⟩ := (hrd _ _ _ _ hT H).2.2.len
  refine calls_J (args := [.func (.yield l) #[] #[], .pointer (some ⟨b, 0, none⟩)]) Try.func222 rfl Try.ntmps222 rfl ?_
  ((repeat refine JC.seq ?_); refine JC.region ?_)
  refine JL.load rfl sh50 (hrd _ _ _ _ hT H).1 rfl ?_
  refine JL.len rfl Try.underlying50 rfl ?_
  refine JL.pure rfl rfl ?_
  refine JL.nil ?_
  ((repeat refine Ex.normal_block ?_); refine Ex.next ?_)
  ((repeat refine JC.seq ?_); refine JC.block ?_)
  ((repeat refine JC.seq ?_); refine JC.loop (ι := Nat × List HP) (fun x => [(0, .func (.yield l) #[] #[]), (6, .slice a rs.length cap), (7, .int .i64 rs.length), (8, .int .i64 x.1)])
    (fun x wr => x.1 ≤ rs.length ∧ T (cellsAll (rs.take x.1)) x.2 ∧ Own w0 wr (X ++ x.2)) (fun x => rs.length - x.1) (0, L) ?_ ?_ ?_)
  · exact ⟨rfl, rfl, rfl, rfl, trivial⟩
  · exact ⟨Nat.zero_le _, hT, H⟩
  · rintro ⟨k, L⟩ wr ⟨hk, hT, H⟩
    simp only at hk hT H
    show JC _ _ _ _ [(0, .func (.yield l) #[] #[]), (6, .slice a rs.length cap), (7, .int .i64 rs.length), (8, .int .i64 k)] _
    ((repeat refine JC.seq ?_); refine JC.region ?_)
    refine JL.pure rfl rfl ?_
    refine JL.nil ?_
    ((repeat refine Ex.normal_block ?_); refine Ex.next ?_)
    ((repeat refine JC.seq ?_); refine JC.cond rfl ?_ ?_)
    · intro h9
      (try simp only [Bool.not_eq_true', Bool.not_eq_false', decide_eq_true_eq, decide_eq_false_iff_not] at h9)
      have h9 : k < rs.length := by omega
      have hsl := (hrd _ _ _ _ hT H).2.2
      obtain ⟨_, _, _, he1, ha'⟩ := id hsl
      cases he1
      obtain ⟨β, off, hra, hβ, hc⟩ := ha'.resolve_left (by rintro rfl; simp at h9)
      have hx : rs[k]? = some rs[k] := by simp [h9]
      have htk := ht _ (List.getElem_mem h9)
      ((repeat refine JC.seq ?_); refine JC.skip ?_)
      ((repeat refine Ex.normal_block ?_); refine Ex.next ?_)
      ((repeat refine JC.seq ?_); refine JC.block ?_)
      ((repeat refine JC.seq ?_); refine JC.region ?_)
      refine JL.indexS k (congrArg (fun z => some (Value.slice z rs.length cap)) hra) rfl Try.underlying50 sh140 rfl h9 rfl ?_
      refine JL.load rfl sh140 (hc k _ hx) rfl ?_
      refine JL.alloc H z140 rfl ?_
      intro b4 w1 H
      refine JL.storeB 0 H rfl rfl sh140 rfl rfl rfl rfl rfl ?_
      intro w2 H
      refine JL.nil ?_
      ((repeat refine Ex.normal_block ?_); refine Ex.next ?_)
      ((repeat refine JC.seq ?_); refine JC.region ?_)
      refine JL.fieldAddr rfl Try.underlying140 rfl sh3 rfl ?_
      refine JL.loadB 0 H rfl sh3 rfl rfl rfl ?_
      refine JL.pure rfl rfl ?_
      refine JL.nil ?_
      ((repeat refine Ex.normal_block ?_); refine Ex.next ?_)
      ((repeat refine JC.seq ?_); refine JC.block ?_)
      ((repeat refine JC.seq ?_); refine JC.loop (ι := Int × List HP) (fun x => [(0, .func (.yield l) #[] #[]), (6, .slice a rs.length cap), (7, .int .i64 rs.length), (8, .int .i64 k), (4, .pointer (some ⟨b4, 0, none⟩)), (5, .int .i64 x.1)])
        (fun x wr => (rs[k].From ≤ x.1 ∧ (x.1 ≤ rs[k].To ∨ x.1 = rs[k].From)) ∧ T (cellsAll (rs.take k) ++ (cellsRun rs[k]).take (x.1 - rs[k].From).toNat) x.2 ∧ Own w0 wr (blk b4 (.cells ⟨[.int .i64 rs[k].Y, .int .i64 rs[k].From, .int .i64 rs[k].To]⟩ 140 (0, 0)) :: (X ++ x.2))) (fun x => (rs[k].To - x.1).toNat) (rs[k].From, L) ?_ ?_ ?_)
      · exact ⟨rfl, rfl, rfl, rfl, rfl, rfl, trivial⟩
      · exact ⟨⟨Int.le_refl _, .inr rfl⟩, by simpa using hT, H⟩
      · rintro ⟨x, L⟩ wr ⟨⟨hx0, hx1⟩, hT, H⟩
        simp only at hx0 hx1 hT H
        show JC _ _ _ _ [(0, .func (.yield l) #[] #[]), (6, .slice a rs.length cap), (7, .int .i64 rs.length), (8, .int .i64 k), (4, .pointer (some ⟨b4, 0, none⟩)), (5, .int .i64 x)] _
        ((repeat refine JC.seq ?_); refine JC.region ?_)
        refine JL.pure rfl rfl ?_
        refine JL.fieldAddr rfl Try.underlying140 rfl sh3 rfl ?_
        refine JL.loadB 0 H rfl sh3 rfl rfl rfl ?_
        refine JL.pure rfl rfl ?_
        refine JL.nil ?_
        ((repeat refine Ex.normal_block ?_); refine Ex.next ?_)
        ((repeat refine JC.seq ?_); refine JC.cond rfl ?_ ?_)
        · intro h17
          (try simp only [Bool.not_eq_true', Bool.not_eq_false', decide_eq_true_eq, decide_eq_false_iff_not] at h17)
          have hpre := cells_prefix (rs := rs) (j := (x - rs[k].From).toNat) h9 (by omega)
          rw [show rs[k].From + ((x - rs[k].From).toNat : Int) = x by omega] at hpre
          ((repeat refine JC.seq ?_); refine JC.skip ?_)
          ((repeat refine Ex.normal_block ?_); refine Ex.next ?_)
          ((repeat refine JC.seq ?_); refine JC.block ?_)
          ((repeat refine JC.seq ?_); refine JC.region ?_)
          refine JL.pure rfl rfl ?_
          refine JL.pure rfl rfl ?_
          refine JL.fieldAddr rfl Try.underlying140 rfl sh3 rfl ?_
          refine JL.loadB 0 H rfl sh3 rfl rfl rfl ?_
          refine JL.build s62 rfl rfl ?_
          refine JL.yield rfl rfl rfl (hy _ (⟨x, rs[k].Y⟩ : Cell) L (blk b4 (.cells ⟨[.int .i64 rs[k].Y, .int .i64 rs[k].From, .int .i64 rs[k].To]⟩ 140 (0, 0)) :: X) _ hpre hT H) ?_
          rintro _ w3 ⟨bb, L9, rfl, hT9, H⟩
          refine ⟨_, rfl, ?_⟩
          refine JL.pure rfl rfl ?_
          refine JL.nil ?_
          ((repeat refine Ex.normal_block ?_); refine Ex.next ?_)
          ((repeat refine JC.seq ?_); refine JC.cond rfl ?_ ?_)
          · intro h26
            (try simp only [Bool.not_eq_true', Bool.not_eq_false', decide_eq_true_eq, decide_eq_false_iff_not] at h26)
            have h26 : bb = false := by simpa using h26
            ((repeat refine JC.seq ?_); refine JC.ret ?_)
            (repeat (first | refine Ex.ret_then ?_ | refine Ex.ret_block ?_))
            refine Ex.ret0 rfl ⟨⟨_, rfl⟩, L9, (show Own w0 _ (_ :: (X ++ L9)) from H).drop 0, .inr ⟨_, hpre, ?_⟩⟩
            rw [h26] at hT9
            exact hT9
          · intro h26
            (try simp only [Bool.not_eq_true', Bool.not_eq_false', decide_eq_true_eq, decide_eq_false_iff_not] at h26)
            have h26 : bb = true := by simpa using h26
            ((repeat refine JC.seq ?_); refine JC.skip ?_)
            ((repeat refine Ex.normal_block ?_); refine Ex.next ?_)
            ((repeat refine JC.seq ?_); refine JC.region ?_)
            refine JL.pure rfl rfl ?_
            refine JL.arith rfl (by unfold In64; omega) rfl ?_
            refine JL.pure rfl rfl ?_
            refine JL.nil ?_
            (repeat refine Ex.normal_block ?_)
            refine Ex.again (x + 1, L9) ⟨rfl, rfl, rfl, rfl, rfl, rfl, trivial⟩ ⟨⟨by simp only; omega, by simp only; omega⟩, ?_, H⟩ (by simp only; omega)
            simp only
            rw [show (x + 1 - rs[k].From).toNat = (x - rs[k].From).toNat + 1 by omega, List.take_add_one, cellsRun_get _ _ (by omega), ← List.append_assoc, show rs[k].From + ((x - rs[k].From).toNat : Int) = x by omega]
            rw [h26] at hT9
            exact hT9
        · intro h17
          (try simp only [Bool.not_eq_true', Bool.not_eq_false', decide_eq_true_eq, decide_eq_false_iff_not] at h17)
          
          ((repeat refine JC.seq ?_); refine JC.exit ?_)
          (repeat (first | refine Ex.exit_then ?_ | refine Ex.exit_miss (by decide) ?_))
          refine Ex.exit_hit ?_
          ((repeat refine Ex.normal_block ?_); refine Ex.next ?_)
          ((repeat refine JC.seq ?_); refine JC.region ?_)
          refine JL.arith rfl (by unfold In64; omega) rfl ?_
          refine JL.pure rfl rfl ?_
          refine JL.nil ?_
          (repeat refine Ex.normal_block ?_)
          have hxx : x = max rs[k].From rs[k].To := by omega
          refine Ex.again (k + 1, L) ⟨rfl, rfl, rfl, rfl, trivial⟩ ⟨h9, ?_, (show Own w0 _ (_ :: (X ++ L)) from H).drop 0⟩ (by simp only; omega)
          simp only
          rw [cellsAll_take h9]
          rwa [List.take_of_length_le (l := cellsRun rs[k]) (by rw [cellsRun_len]; omega)] at hT
    · intro h9
      (try simp only [Bool.not_eq_true', Bool.not_eq_false', decide_eq_true_eq, decide_eq_false_iff_not] at h9)
      have hkk : k = rs.length := by omega
      subst hkk
      rw [List.take_length] at hT
      ((repeat refine JC.seq ?_); refine JC.exit ?_)
      (repeat (first | refine Ex.exit_then ?_ | refine Ex.exit_miss (by decide) ?_))
      refine Ex.exit_hit ?_
      ((repeat refine Ex.normal_block ?_); refine Ex.end_ ?_)
      refine Ex.ret0 rfl ⟨⟨_, rfl⟩, L, H, .inl hT⟩
theorem Own.swap {w0 w : World} {X L : List HP} (H : Own w0 w (X ++ L)) : Own w0 w (L ++ X) := H.perm List.perm_append_comm
theorem ap62 : tyApp Try.prog 62 = some (2, 16) := by kernel_rfl
theorem appendSeq_c {gf : FuncId} {lb : List Value} {items : List Cell} {Rd : World → Prop} (w : World) (hb : hasBody Try.prog gf = true) (hit : Iter Try.prog gf lb (fun c : Cell => [c.ev]) items w [] Rd)
    (hRd : ∀ w', Below w.heap.size w w' → Rd w') (hlen : items.length ≤ 1000000000) :
    Calls Try.prog 221 #[.slice none 0 0, .func (.func gf) #[] ⟨lb⟩] w (fun e w' => ∃ v, e = .returned v ∧ Own w w' [cellRow v items]) := by
  refine calls_J (args := [.slice none 0 0, .func (.func gf) #[] ⟨lb⟩]) Try.func221 rfl Try.ntmps221 rfl ?_
  have H := Own.start w
  ((repeat refine JC.seq ?_); refine JC.region ?_)
  refine JL.box H rfl rfl rfl ?_
  intro b2 w1 H
  refine JL.pure rfl rfl ?_
  refine JL.nil ?_
  ((repeat refine Ex.normal_block ?_); refine Ex.next ?_)
  ((repeat refine JC.seq ?_); refine JC.region ?_)
  refine JL.pure rfl rfl ?_
  refine JL.nil ?_
  ((repeat refine Ex.normal_block ?_); refine Ex.next ?_)
  ((repeat refine JC.seq ?_); refine JC.block ?_)
  ((repeat refine JC.seq ?_); refine JC.rangeFunc (ι := Nat) (A := []) rfl hb hit (fun _ => rfl) rfl (fun pre L => ∃ v, L = [cellRow v pre, blk b2 (.cells ⟨[v]⟩ 68 (0, 0))]) (fun _ _ _ => False) (L0 := [cellRow (.slice none 0 0) [], blk b2 (.cells ⟨[.slice none 0 0]⟩ 68 (0, 0))]) (H.nilRow 62 2) ⟨_, rfl⟩ ?_
    (fun b x => [(2, .pointer (some ⟨b2, 0, none⟩)), (5, .pointer (some ⟨b, 0, none⟩))]) (fun b x => [blk b (.cells ⟨x.cs⟩ 62 (0, 0))]) ?_ ?_ ?_ ?_)
  · rintro pre L X w' _ h
    exact hRd _ h.below
  · intro l pre x L X wr hpx hS H
    ((repeat refine JC.seq ?_); refine JC.region ?_)
    refine JL.alloc H z62 rfl ?_
    intro b5 w2 H
    refine JL.storeB 0 H rfl rfl sh62 rfl rfl rfl rfl rfl ?_
    intro w3 H
    refine JL.nil ?_
    (repeat refine Ex.normal_block ?_)
    refine Ex.asg (E := fun b (x : Cell) => [blk b (.cells ⟨x.cs⟩ 62 (0, 0))]) (F := fun b x => [(2, .pointer (some ⟨b2, 0, none⟩)), (5, .pointer (some ⟨b, 0, none⟩))]) (x := x) (M := X ++ L) b5 ?_ H
    exact ⟨rfl, rfl, trivial⟩
  · rintro l b5 pre x L X wr hpx ⟨v, rfl⟩ H
    have hpl : pre.length + 1 ≤ items.length := by have := hpx.length_le; simpa using this
    replace H : Own w wr (blk b5 (.cells ⟨x.cs⟩ 62 (0, 0)) :: cellRow v pre :: blk b2 (.cells ⟨[v]⟩ 68 (0, 0)) :: X) := H.perm (List.Perm.cons _ (List.perm_append_comm (l₁ := X) (l₂ := [cellRow v pre, blk b2 (.cells ⟨[v]⟩ 68 (0, 0))])))
    ((repeat refine JC.seq ?_); refine JC.block ?_)
    ((repeat refine JC.seq ?_); refine JC.region ?_)
    refine JL.loadB 2 H rfl sh68 rfl rfl rfl ?_
    refine JL.loadB 0 H rfl sh62 rfl rfl rfl ?_
    refine JL.buildSlice H Try.underlying68 sh62 z62 rfl rfl rfl rfl rfl ?_
    intro b10 w4 H
    refine JL.append1 (news := x.cs) 2 0 H Try.underlying68 ap62 rfl rfl rfl rfl rfl rfl (by omega) (by omega) rfl ?_
    intro v2 wa H
    replace H := H.cast (L := _ :: _ :: cellRow v2 (pre ++ [x]) :: _) (by unfold cellRow; rw [← trow_snoc]; rfl)
    obtain ⟨a2, c2, rfl⟩ := H.row_slice (j := 2) rfl
    refine JL.storeB 3 H rfl rfl sh68 rfl rfl rfl rfl rfl ?_
    intro w5 H
    refine JL.nil ?_
    (repeat refine Ex.normal_block ?_)
    have H := (H.drop 0).drop 0
    exact Ex.round [cellRow _ (pre ++ [x]), blk b2 (.cells ⟨[_]⟩ 68 (0, 0))] ⟨_, rfl⟩ H.swap
  · rintro D wr L ⟨v, rfl⟩ H
    ((repeat refine Ex.normal_block ?_); refine Ex.next ?_)
    ((repeat refine JC.seq ?_); refine JC.region ?_)
    refine JL.loadB 2 H rfl sh68 rfl rfl rfl ?_
    refine JL.pure rfl rfl ?_
    refine JL.nil ?_
    ((repeat refine Ex.normal_block ?_); refine Ex.next ?_)
    ((repeat refine JC.seq ?_); refine JC.ret ?_)
    (repeat (first | refine Ex.ret_then ?_ | refine Ex.ret_block ?_))
    refine Ex.retM1 (M := [cellRow v items, blk b2 (.cells ⟨[v]⟩ 68 (0, 0))]) H rfl (fun _ _ => .tmp rfl) (fun w2 H2 => ⟨v, rfl, H2.drop 1⟩)
  · intro D c pre w2 L _ hf; exact hf.elim
theorem collect_c {gf : FuncId} {lb : List Value} {items : List Cell} {Rd : World → Prop} (w : World) (hb : hasBody Try.prog gf = true) (hit : ∀ w0, Iter Try.prog gf lb (fun c : Cell => [c.ev]) items w0 [] Rd)
    (hRd : ∀ w', Below w.heap.size w w' → Rd w') (hlen : items.length ≤ 1000000000) :
    Calls Try.prog 138 #[.func (.func gf) #[] ⟨lb⟩] w (fun e w' => ∃ v, e = .returned v ∧ Own w w' [cellRow v items]) := by
  refine calls_J (args := [.func (.func gf) #[] ⟨lb⟩]) Try.func138 rfl Try.ntmps138 rfl ?_
  have H := Own.start w
  ((repeat refine JC.seq ?_); refine JC.region ?_)
  refine JL.pure rfl rfl ?_
  refine JL.nil ?_
  ((repeat refine Ex.normal_block ?_); refine Ex.next ?_)
  ((repeat refine JC.seq ?_); refine JC.region ?_)
  refine JL.pure rfl rfl ?_
  refine JL.call fb221 rfl rfl (appendSeq_c _ hb (hit _) (fun w' h => hRd w' (by have h1 := H.below; exact h1.trans (h.mono h1.size))) hlen) ?_
  rintro _ w1 ⟨v, rfl, K⟩
  have H := H.join K
  refine ⟨_, rfl, ?_⟩
  refine JL.pure rfl rfl ?_
  refine JL.nil ?_
  ((repeat refine Ex.normal_block ?_); refine Ex.next ?_)
  ((repeat refine JC.seq ?_); refine JC.ret ?_)
  (repeat (first | refine Ex.ret_then ?_ | refine Ex.ret_block ?_))
  refine Ex.ret1 rfl (.tmp rfl) ⟨v, rfl, H⟩
theorem cells_c (w : World) (a : Option Addr) (n c : Nat) : Calls Try.prog 139 #[.slice a n c] w (fun e w' => ∃ b, e = .returned (.func (.func 222) #[] ⟨[.pointer (some ⟨b, 0, none⟩)]⟩) ∧ Own w w' [blk b (.cells ⟨[.slice a n c]⟩ 50 (0, 0))]) := by
  refine calls_J (args := [.slice a n c]) Try.func139 rfl Try.ntmps139 rfl ?_
  have H := Own.start w
  ((repeat refine JC.seq ?_); refine JC.region ?_)
  refine JL.box H rfl rfl rfl ?_
  intro b1 w1 H
  refine JL.pure rfl rfl ?_
  refine JL.nil ?_
  ((repeat refine Ex.normal_block ?_); refine Ex.next ?_)
  ((repeat refine JC.seq ?_); refine JC.region ?_)
  refine JL.pure rfl rfl ?_
  refine JL.pure rfl rfl ?_
  refine JL.nil ?_
  ((repeat refine Ex.normal_block ?_); refine Ex.next ?_)
  ((repeat refine JC.seq ?_); refine JC.ret ?_)
  (repeat (first | refine Ex.ret_then ?_ | refine Ex.ret_block ?_))
  refine Ex.ret1 rfl (.tmp rfl) ⟨_, rfl, H⟩
end Go.J

namespace Go.J
set_option linter.unusedSimpArgs false
set_option linter.unusedVariables false
def cellsR (g : Grid) (r : List Run) : List Cell × Int := if checkedB g [r] then (cellsAll r, 0) else ([], 2)
theorem cellsR_mem {g : Grid} {r : List Run} {c : Cell} (h : c ∈ (cellsR g r).1) : checkedB g [r] = true ∧ hasB r c = true := by
  unfold cellsR at h
  split at h
  · rename_i hc; exact ⟨hc, mem_cellsAll.1 h⟩
  · cases h
theorem pick_bd {S c u : Int} {n : Int} (hS : 1 ≤ S ∧ S ≤ 50000) (hc : 0 ≤ c ∧ c < n) (hn : n ≤ 256) (hu : 0 ≤ u) : c * S ≤ c * S + u % S ∧ c * S + u % S ≤ c * S + S - 1 ∧ (0 ≤ c * S ∧ c * S ≤ 12800000) := by
  have h1 := Int.emod_nonneg u (show S ≠ 0 by omega)
  have h2 := Int.emod_lt_of_pos u (show 0 < S by omega)
  exact ⟨by omega, by omega, mul_bd (M := 0) hc.1 (by omega) (by omega) hS.2⟩
theorem of_bd {lo hi u : Int} (h : lo ≤ hi) : lo ≤ lo + u % (hi - lo + 1) ∧ lo + u % (hi - lo + 1) ≤ hi := by
  have h1 := Int.emod_nonneg u (show hi - lo + 1 ≠ 0 by omega)
  have h2 := Int.emod_lt_of_pos u (show 0 < hi - lo + 1 by omega)
  omega
theorem ediv_cell {S n X : Int} (hS : 1 ≤ S) (h0 : 0 ≤ X) (h1 : X < n * S) : 0 ≤ X / S ∧ X / S < n ∧ X / S * S ≤ X ∧ X ≤ X / S * S + S - 1 := by
  have h2 := Int.emod_add_mul_ediv X S
  have h3 := Int.emod_nonneg X (show S ≠ 0 by omega)
  have h4 := Int.emod_lt_of_pos X (show 0 < S by omega)
  have h5 := Int.mul_comm S (X / S)
  exact ⟨Int.ediv_nonneg h0 (by omega), Int.ediv_lt_of_lt_mul (by omega) h1, by omega, by omega⟩
theorem off_lo {S c low : Int} (hS : 1 ≤ S) (h : c * S + low < 0) : c + low / S < 0 := by
  have := Int.ediv_lt_of_lt_mul (a := low) (b := -c) (c := S) (by omega) (by rw [Int.neg_mul]; omega)
  omega
theorem oneR_eq {x y : Int} (h : 0 ≤ x ∧ x < 256) : oneR x y = [⟨y, x, x + 1⟩] := by
  unfold oneR; rw [w64_id (by unfold In64; omega)]
theorem one_right {g : Grid} (hg : g.ok = true) {x y : Int} (hx : 0 ≤ x ∧ x < g.W) (hy : 0 ≤ y ∧ y < g.H) : checkedB g [oneR x y] = true := by
  obtain ⟨hW, hH, hS, _⟩ := Grid.ok_b hg
  unfold checkedB
  rw [hg, oneR_eq (by omega)]
  simp only [List.all_cons, List.all_nil, Bool.and_true, Bool.true_and]
  refine right_iff.2 ⟨?_, by simp⟩
  refine ⟨?_, ?_⟩
  · intro r hr
    simp only [List.mem_singleton] at hr
    subst hr
    simp only
    omega
  · simp
/-- what is asked of a move -/
def MovesC (g : Grid) (r : List Run) (p : Push) (c : Cell) (X Y mx my : Int) : Prop :=
  ((X + mx < 0 ∨ Y + my < 0 ∨ X + mx ≥ g.W * g.S ∨ Y + my ≥ g.H * g.S) → (growR g r p).2.1 = true) ∧
    (¬(X + mx < 0 ∨ Y + my < 0 ∨ X + mx ≥ g.W * g.S ∨ Y + my ≥ g.H * g.S) → ∃ d : Cell, cellOfR g ⟨X + mx, Y + my⟩ = (d, 0) ∧ hasB (growR g r p).1 d = true ∧ (backR g (oneR d.X d.Y) p).2 = 0 ∧ hasB (backR g (oneR d.X d.Y) p).1 c = true ∧ (0 ≤ d.X ∧ d.X < 256))
/-- nothing gets lost by a move -/
theorem moves_law {g : Grid} (hs : g.ok = true → g.W * g.H ≤ 4096) {r : List Run} {p : Push} (he : (growR g r p).2.2 = 0) {c : Cell} (hc : hasB r c = true) {X Y mx my : Int}
    (hX : c.X * g.S ≤ X ∧ X ≤ c.X * g.S + g.S - 1) (hY : c.Y * g.S ≤ Y ∧ Y ≤ c.Y * g.S + g.S - 1) (hmx : p.Low.X ≤ mx ∧ mx ≤ p.High.X) (hmy : p.Low.Y ≤ my ∧ my ≤ p.High.Y) :
    MovesC g r p c X Y mx my := by
  unfold MovesC
  rcases growR_small hs r p with h1 | ⟨hck, hp, h1, hr⟩
  · rw [h1] at he; cases he
  obtain ⟨hg, hall⟩ := checkedB_b hck
  obtain ⟨hW, hH, hS, _⟩ := Grid.ok_b hg
  have hca := canon_of_right (hall r (by simp))
  have hcG := canon_inG hca hc
  unfold inG at hcG
  constructor
  · intro ho
    rw [h1]
    simp only
    obtain ⟨x, hx, k1, k2, k3⟩ := hasB_iff.1 hc
    refine List.any_eq_true.2 ⟨x, hx, ?_⟩
    unfold offB leadOf
    simp only [Bool.or_eq_true, decide_eq_true_eq]
    rcases ho with h | h | h | h
    · left; left; left
      have := off_lo (c := c.X) (low := p.Low.X) (S := g.S) hS.1 (by omega)
      omega
    · left; right
      have := off_lo (c := c.Y) (low := p.Low.Y) (S := g.S) hS.1 (by omega)
      omega
    · left; left; right
      have := (@lead_ge c.X g.S p.High.X g.W hS.1).2 (by omega)
      omega
    · right
      have := (@lead_ge c.Y g.S p.High.Y g.H hS.1).2 (by omega)
      omega
  · intro ho
    have hdx := ediv_cell (n := g.W) (X := X + mx) hS.1 (by omega) (by omega)
    have hdy := ediv_cell (n := g.H) (X := Y + my) hS.1 (by omega) (by omega)
    obtain ⟨dx, hdxe⟩ : ∃ dx, dx = (X + mx) / g.S := ⟨_, rfl⟩
    obtain ⟨dy, hdye⟩ : ∃ dy, dy = (Y + my) / g.S := ⟨_, rfl⟩
    rw [← hdxe] at hdx
    rw [← hdye] at hdy
    have m1 := mul_bd (M := 0) hdx.1 (by omega) (show 0 ≤ g.S by omega) hS.2
    have m2 := mul_bd (M := 0) hdy.1 (by omega) (show 0 ≤ g.S by omega) hS.2
    have hmainR : reachesB g p c ⟨dx, dy⟩ = true := by
      unfold reachesB reachB
      simp only [Bool.and_eq_true, decide_eq_true_eq]
      omega
    have hpn : Push.ok ⟨⟨-p.High.X, -p.High.Y⟩, ⟨-p.Low.X, -p.Low.Y⟩⟩ = true := by
      unfold Push.ok at hp ⊢
      simp only [Bool.and_eq_true, decide_eq_true_eq] at hp ⊢
      omega
    have hone := one_right hg (x := dx) (y := dy) (by omega) (by omega)
    have hone2 := one_right hg (x := c.X) (y := c.Y) (by omega) (by omega)
    have hg1 : (growR g (oneR c.X c.Y) p).2.2 = 0 := by
      rcases growR_one (g := g) (x := c.X) (y := c.Y) (p := p) (by unfold In64; omega) with h | ⟨_, h⟩
      · exfalso
        unfold growR at h
        rw [hone2, hp] at h
        rw [(one_ok (by unfold In64; omega) hone2).2.2, grow_one_fits hH] at h
        have := congrArg (·.2.2) h
        simp at this
      · rw [h]
    have hb1 : (backR g (oneR dx dy) p).2 = 0 := by
      unfold backR
      rw [if_pos hp]
      simp only
      rcases growR_one (g := g) (x := dx) (y := dy) (p := ⟨⟨-p.High.X, -p.High.Y⟩, ⟨-p.Low.X, -p.Low.Y⟩⟩) (by unfold In64; omega) with h | ⟨_, h⟩
      · exfalso
        unfold growR at h
        rw [hone, hpn] at h
        rw [(one_ok (by unfold In64; omega) hone).2.2, grow_one_fits hH] at h
        have := congrArg (·.2.2) h
        simp at this
      · rw [h]
    obtain ⟨_, _, _, _, _, _, t1, t2⟩ := tight_grow (c := c) (d := ⟨dx, dy⟩) (by unfold In64; omega) (by unfold In64; simp only; omega) hg1 hb1
    refine ⟨⟨dx, dy⟩, ?_, ?_, hb1, by rw [t2, hmainR], by simp only; omega⟩
    · unfold cellOfR
      have hsp : Spot.ok ⟨X + mx, Y + my⟩ = true := by
        unfold Spot.ok
        simp only [Bool.and_eq_true, decide_eq_true_eq]
        omega
      rw [hg, hsp]
      simp only [Bool.and_self, Bool.not_true, Bool.false_eq_true, if_false]
      rw [← hdxe, ← hdye, if_pos (by omega)]
    · rw [h1]
      simp only
      rw [grow_has hH (leadOf_wide hS.1 hp).1 (fun r hr => (hca.rng r hr).2.2.1)]
      refine ⟨by unfold inG; simp only; omega, c, hc, ?_⟩
      unfold rectC leadOf
      simp only
      have e1 := (@lead_le c.X g.S p.Low.X dx hS.1).2 (by omega)
      have e2 := (@lead_ge c.X g.S p.High.X dx hS.1).2 (by omega)
      have e3 := (@lead_le c.Y g.S p.Low.Y dy hS.1).2 (by omega)
      have e4 := (@lead_ge c.Y g.S p.High.Y dy hS.1).2 (by omega)
      omega
end Go.J

namespace Go.J
set_option linter.unusedSimpArgs false
set_option linter.unusedVariables false
open Go.RowKit
/-! ## an int of another kind that an int holds -/
section
variable {P : Program} {N : Sz} {ops : Array Oper} {Q : Exit → Act → World → Prop} {rest : List Oper} {fr : Fr} {w w0 : World} {L : List HP}
  {d : Option Tmp} {ty : TypeId} {pos : String} {af : Array Edge}
theorem JL.convI {s t : TypeId} {x : Operand} {k0 : IntKind} {ds : TypeDesc} {n : Int} (hx : fr.ev x = some (.int k0 n)) (hs : P.underlying s = some ds) (hu : P.underlying t = some (.int .i64)) (hn : In64 n) (hd : Fr.fits N d = true)
    (k : JL P N ops Q rest (fr.put d (.int .i64 n)) w) : JL P N ops Q (⟨d, .convert s t x, ty, pos, af, none⟩ :: rest) fr w :=
  JL.conv hx hs hu hd (by rw [show IntKind.i64.wrap n = n from w64_id hn]; exact k)
end
section
variable {P : Program} {N : Sz} {ops : Array Oper} {Q : Exit → Act → World → Prop} {n : Nat} {es : List Nat} {Ls : Nat → List HP} {w0 : World} {fr0 : Nat → Fr} {Z : Fr → World → Prop}
variable {d : Option Tmp} {ty : TypeId} {pos : String} {af : Array Edge} {r : List Oper} {i : Nat} {ks : List Kn} {L : List HP}
theorem JD.convI {s t : TypeId} {x : Operand} {k0 : IntKind} {ds : TypeDesc} {m : Int} (hx : (frDet (depsOf af) ks (fr0 i)).ev x = some (.int k0 m)) (hs : P.underlying s = some ds) (hu : P.underlying t = some (.int .i64)) (hn : In64 m) (hd : Fr.fits N d = true)
    (k : JD P N ops Q n es Ls w0 fr0 Z r (i + 1) (.det i d (.int .i64 m) :: ks)) (he : neB es i = true := by rfl) (hs0 : noS ks i = true := by rfl) : JD P N ops Q n es Ls w0 fr0 Z (⟨d, .convert s t x, ty, pos, af, none⟩ :: r) i ks :=
  JD.conv hx hs hu hd (by rw [show IntKind.i64.wrap m = m from w64_id hn]; exact k) he hs0
end
end Go.J

namespace Go.J
open Go.RowKit Go.Proofs
set_option maxRecDepth 8000
set_option linter.unusedSimpArgs false
set_option linter.unusedVariables false
theorem cellsRun_bd {r : Run} (h : 0 ≤ r.From ∧ r.To ≤ 256) : (cellsRun r).length ≤ 256 := by rw [cellsRun_len]; omega
theorem cellsAll_bd : ∀ {rs : List Run}, (∀ r ∈ rs, 0 ≤ r.From ∧ r.To ≤ 256) → (cellsAll rs).length ≤ rs.length * 256 := by
  intro rs
  induction rs with
  | nil => intro _; simp [cellsAll]
  | cons r rs ih =>
    intro h
    have h1 := ih fun x hx => h x (List.mem_cons_of_mem _ hx)
    have h2 := cellsRun_bd (h r List.mem_cons_self)
    have h3 : cellsAll (r :: rs) = cellsRun r ++ cellsAll rs := rfl
    rw [h3, List.length_append, List.length_cons]
    omega
theorem cellsR_bd (g : Grid) (r : List Run) : (cellsR g r).1.length ≤ 2097152 := by
  unfold cellsR
  split
  · rename_i hc
    obtain ⟨hg, hall⟩ := checkedB_b hc
    obtain ⟨hW, hH, _, _⟩ := Grid.ok_b hg
    have h1 := right_iff.1 (hall r (by simp))
    have h2 := cellsAll_bd (rs := r) (fun x hx => by have := h1.1.rng x hx; omega)
    have := h1.2
    simp only
    omega
  · simp
theorem cells49_c (g : Grid) (lv rv : Value) (r : List Run) (w : World) (hl : SlR w lv g.land) (hr : SlR w rv r) :
    Calls Try.prog 49 #[g.ev lv, rv] w (fun e w' => ∃ v, e = .returned (.tuple #[v, .int .i64 (cellsR g r).2]) ∧ Own w w' [cellRow v (cellsR g r).1]) := by
  obtain ⟨ra, rc, rfl⟩ := hr.len
  refine calls_J (args := [g.ev lv, .slice ra r.length rc]) Try.func49 rfl Try.ntmps49 rfl ?_
  have H := Own.start w
  ((repeat refine JC.seq ?_); refine JC.region ?_)
  refine JL.box H rfl rfl rfl ?_
  intro b2 w1 H
  refine JL.pure rfl rfl ?_
  refine JL.pure rfl rfl ?_
  refine JL.nil ?_
  ((repeat refine Ex.normal_block ?_); refine Ex.next ?_)
  ((repeat refine JC.seq ?_); refine JC.region ?_)
  refine JL.loadB 0 H rfl sh52 rfl rfl rfl ?_
  refine JL.pure rfl rfl ?_
  refine JL.buildSlice H Try.underlying134 sh50 z50 rfl rfl rfl rfl rfl ?_
  intro b9 w2 H
  refine JL.callP H fb129 rfl rfl (checked_c g lv _ [(.slice ra r.length rc, r)] _ (hl.grow H.below) (H.blkSl1 (j := 0) (ev := Prod.fst) rfl [(.slice ra r.length rc, r)] rfl (by simp)) (by
    have hB := H.below
    intro p hp
    simp only [List.mem_cons, List.not_mem_nil, or_false] at hp
    subst hp
    exact hr.grow hB)) ?_
  intro w3 H _
  refine JL.pure rfl rfl ?_
  refine JL.nil ?_
  ((repeat refine Ex.normal_block ?_); refine Ex.next ?_)
  ((repeat refine JC.seq ?_); refine JC.region ?_)
  refine JL.pure rfl rfl ?_
  refine JL.pure rfl rfl ?_
  refine JL.nil ?_
  ((repeat refine Ex.normal_block ?_); refine Ex.next ?_)
  ((repeat refine JC.seq ?_); refine JC.cond rfl ?_ ?_)
  · intro h12
    (try simp only [Bool.not_eq_true', Bool.not_eq_false', decide_eq_true_eq, decide_eq_false_iff_not] at h12)
    have hok : checkedB g [r] = false := by
      cases hc : checkedB g [r] with
      | false => rfl
      | true => exfalso; simp [hc] at h12
    ((repeat refine JC.seq ?_); refine JC.region ?_)
    refine JL.pure rfl rfl ?_
    refine JL.pure rfl rfl ?_
    refine JL.pure rfl rfl ?_
    refine JL.nil ?_
    ((repeat refine Ex.normal_block ?_); refine Ex.next ?_)
    ((repeat refine JC.seq ?_); refine JC.ret ?_)
    (repeat (first | refine Ex.ret_then ?_ | refine Ex.ret_block ?_))
    refine Ex.ret2 rfl (.tmp rfl) (.tmp rfl) ?_
    unfold cellsR
    rw [hok]
    exact ⟨.slice none 0 0, by simp [hok], (((H.drop 0).drop 0).nilRow 62 2)⟩
  · intro h12
    (try simp only [Bool.not_eq_true', Bool.not_eq_false', decide_eq_true_eq, decide_eq_false_iff_not] at h12)
    have hok : checkedB g [r] = true := by
      cases hc : checkedB g [r] with
      | true => rfl
      | false => exfalso; simp [hc] at h12
    have hce : cellsR g r = (cellsAll r, 0) := by unfold cellsR; rw [if_pos hok]
    have hbd := cellsR_bd g r
    rw [hce] at hbd
    have hca := canon_of_right ((checkedB_b hok).2 r (by simp))
    obtain ⟨hW, hH, _, _⟩ := Grid.ok_b (checkedB_b hok).1
    ((repeat refine JC.seq ?_); refine JC.skip ?_)
    ((repeat refine Ex.normal_block ?_); refine Ex.next ?_)
    ((repeat refine JC.seq ?_); refine JC.region ?_)
    refine JL.pure rfl rfl ?_
    refine JL.call fb139 rfl rfl (cells_c _ ra r.length rc) ?_
    rintro _ w4 ⟨b9, rfl, K⟩
    have H := H.join K
    refine ⟨_, rfl, ?_⟩
    refine JL.call fb138 rfl rfl (collect_c (Rd := fun w => LdAt w b9 0 (false, 1) (.slice ra r.length rc) ∧ b9 < w.heap.size ∧ SlR w (.slice ra r.length rc) r) _ (by kernel_rfl) (fun w0 => cells_iter w0 b9 _ r (tame_right hW.2 hca)) (fun w' hw => ?_) (by simp only at hbd; omega)) ?_
    · have hg := H.get (i := 0) rfl
      have hlt := (Array.getElem?_eq_some_iff.1 hg.2).1
      exact ⟨(LdAt.of_block hg.2 rfl).grow hlt hw, Nat.lt_of_lt_of_le hlt hw.size, hr.grow (H.below.trans (hw.mono H.below.size))⟩
    rintro _ w5 ⟨v, rfl, K⟩
    have H := H.join K
    refine ⟨_, rfl, ?_⟩
    refine JL.pure rfl rfl ?_
    refine JL.pure rfl rfl ?_
    refine JL.nil ?_
    ((repeat refine Ex.normal_block ?_); refine Ex.next ?_)
    ((repeat refine JC.seq ?_); refine JC.ret ?_)
    (repeat (first | refine Ex.ret_then ?_ | refine Ex.ret_block ?_))
    refine Ex.ret2 rfl (.tmp rfl) (.tmp rfl) ?_
    rw [hce]
    exact ⟨_, rfl, ((H.drop 1).drop 1).drop 1⟩
theorem emod_bd {u S : Int} (hS : 1 ≤ S) : 0 ≤ u % S ∧ u % S ≤ S - 1 := by
  have h1 := Int.emod_nonneg u (show S ≠ 0 by omega)
  have h2 := Int.emod_lt_of_pos u (show 0 < S by omega)
  omega
def pickR (g : Grid) (c : Cell) (u : Int × Int) : Spot := ⟨c.X * g.S + u.1 % g.S, c.Y * g.S + u.2 % g.S⟩
theorem pick_c (g : Grid) (lv : Value) (c : Cell) (u : Int × Int) (w : World) (hS : 1 ≤ g.S ∧ g.S ≤ 50000) (hX : 0 ≤ c.X ∧ c.X ≤ 256) (hY : 0 ≤ c.Y ∧ c.Y ≤ 256) (h1 : 0 ≤ u.1 ∧ u.1 ≤ 4294967295) (h2 : 0 ≤ u.2 ∧ u.2 ≤ 4294967295) :
    Pur Try.prog 50 #[g.ev lv, c.ev, .agg ⟨[.int .u32 u.1, .int .u32 u.2]⟩] w (pickR g c u).ev := by
  have m1 := mul_bd (M := 0) hX.1 hX.2 (show 0 ≤ g.S by omega) hS.2
  have m2 := mul_bd (M := 0) hY.1 hY.2 (show 0 ≤ g.S by omega) hS.2
  have e1 := emod_bd (u := u.1) hS.1
  have e2 := emod_bd (u := u.2) hS.1
  refine pur_J (args := [g.ev lv, c.ev, .agg ⟨[.int .u32 u.1, .int .u32 u.2]⟩]) Try.func50 rfl Try.ntmps50 rfl ?_
  have H := Own.start w
  ((repeat refine JC.seq ?_); refine JC.region ?_)
  refine JL.box H rfl rfl rfl ?_
  intro b3 w1 H
  refine JL.box H rfl rfl rfl ?_
  intro b4 w2 H
  refine JL.box H rfl rfl rfl ?_
  intro b5 w3 H
  refine JL.alloc H z23 rfl ?_
  intro b6 w4 H
  refine JL.nil ?_
  ((repeat refine Ex.normal_block ?_); refine Ex.next ?_)
  ((repeat refine JC.seq ?_); refine JC.draw 25 H mixed (by kernel_rfl) rfl ?_)
  refine JD.fieldAddr rfl Try.underlying62 rfl sh3 rfl ?_
  refine JD.loadB 2 rfl sh3 rfl rfl rfl ?_
  refine JD.fieldAddr rfl Try.underlying52 rfl sh3 rfl ?_
  refine JD.loadB 3 rfl sh3 rfl rfl rfl ?_
  refine JD.arith rfl (by unfold In64; omega) rfl ?_
  refine JD.indexA 0 rfl rfl Try.underlying25 sh24 rfl (by decide) rfl ?_
  refine JD.loadB 1 rfl sh24 rfl rfl rfl ?_
  refine JD.convI rfl Try.underlying24 Try.underlying3 (by unfold In64; omega) rfl ?_
  refine JD.fieldAddr rfl Try.underlying52 rfl sh3 rfl ?_
  refine JD.loadB 3 rfl sh3 rfl rfl rfl ?_
  first
    | refine JD.remP rfl rfl (by omega) (by omega) rfl ?_
    | refine JD.rem rfl rfl (by omega) rfl ?_
  refine JD.arith rfl (by unfold In64; omega) rfl ?_
  refine JD.fieldAddr rfl Try.underlying62 rfl sh3 rfl ?_
  refine JD.loadB 2 rfl sh3 rfl rfl rfl ?_
  refine JD.fieldAddr rfl Try.underlying52 rfl sh3 rfl ?_
  refine JD.loadB 3 rfl sh3 rfl rfl rfl ?_
  refine JD.arith rfl (by unfold In64; omega) rfl ?_
  refine JD.indexA 1 rfl rfl Try.underlying25 sh24 rfl (by decide) rfl ?_
  refine JD.loadB 1 rfl sh24 rfl rfl rfl ?_
  refine JD.convI rfl Try.underlying24 Try.underlying3 (by unfold In64; omega) rfl ?_
  refine JD.fieldAddr rfl Try.underlying52 rfl sh3 rfl ?_
  refine JD.loadB 3 rfl sh3 rfl rfl rfl ?_
  first
    | refine JD.remP rfl rfl (by omega) (by omega) rfl ?_
    | refine JD.rem rfl rfl (by omega) rfl ?_
  refine JD.arith rfl (by unfold In64; omega) rfl ?_
  refine JD.build s23 rfl rfl ?_
  refine JD.nil ?_
  intro w5 H
  show JL _ _ _ _ _ _ _
  refine JL.storeB 0 H rfl rfl sh23 rfl rfl rfl rfl rfl ?_
  intro w6 H
  refine JL.nil ?_
  ((repeat refine Ex.normal_block ?_); refine Ex.next ?_)
  ((repeat refine JC.seq ?_); refine JC.ret ?_)
  (repeat (first | refine Ex.ret_then ?_ | refine Ex.ret_block ?_))
  refine Ex.ret1 rfl (.cell rfl sh23 (LdAt.of_block (H.get (i := 0) rfl).2 rfl)) ⟨rfl, H.below⟩
def ofR (lo hi u : Int) : Int := lo + u % (hi - lo + 1)
theorem of3_c (lo hi u : Int) (w : World) (hl : -16777216 ≤ lo ∧ lo ≤ hi) (hh : hi ≤ 16777216) (hu : 0 ≤ u ∧ u ≤ 4294967295) : Pur Try.prog 140 #[.int .i64 lo, .int .i64 hi, .int .u32 u] w (.int .i64 (ofR lo hi u)) := by
  have e1 := emod_bd (u := u) (S := hi - lo + 1) (by omega)
  refine pur_J (args := [.int .i64 lo, .int .i64 hi, .int .u32 u]) Try.func140 rfl Try.ntmps140 rfl ?_
  have H := Own.start w
  ((repeat refine JC.seq ?_); refine JC.region ?_)
  refine JL.pure rfl rfl ?_
  refine JL.nil ?_
  ((repeat refine Ex.normal_block ?_); refine Ex.next ?_)
  ((repeat refine JC.seq ?_); refine JC.region ?_)
  refine JL.pure rfl rfl ?_
  refine JL.pure rfl rfl ?_
  refine JL.convI rfl Try.underlying24 Try.underlying3 (by unfold In64; omega) rfl ?_
  refine JL.pure rfl rfl ?_
  refine JL.pure rfl rfl ?_
  refine JL.arith rfl (by unfold In64; omega) rfl ?_
  refine JL.arith rfl (by unfold In64; omega) rfl ?_
  first
    | refine JL.remP rfl rfl (by omega) (by omega) rfl ?_
    | refine JL.rem rfl rfl (by omega) rfl ?_
  refine JL.arith rfl (by unfold In64; omega) rfl ?_
  refine JL.pure rfl rfl ?_
  refine JL.nil ?_
  ((repeat refine Ex.normal_block ?_); refine Ex.next ?_)
  ((repeat refine JC.seq ?_); refine JC.ret ?_)
  (repeat (first | refine Ex.ret_then ?_ | refine Ex.ret_block ?_))
  refine Ex.ret1 rfl (.tmp rfl) ⟨rfl, H.below⟩
def moveR (p : Push) (u : Int × Int) : Spot := ⟨ofR p.Low.X p.High.X u.1, ofR p.Low.Y p.High.Y u.2⟩
theorem move_c (p : Push) (u : Int × Int) (w : World) (hp : p.ok = true) (h1 : 0 ≤ u.1 ∧ u.1 ≤ 4294967295) (h2 : 0 ≤ u.2 ∧ u.2 ≤ 4294967295) : Pur Try.prog 51 #[p.ev, .agg ⟨[.int .u32 u.1, .int .u32 u.2]⟩] w (moveR p u).ev := by
  have hpb : (-16777216 ≤ p.Low.X ∧ p.Low.X ≤ p.High.X) ∧ (-16777216 ≤ p.Low.Y ∧ p.Low.Y ≤ p.High.Y) ∧ max p.High.X p.High.Y ≤ 16777216 := by
    have := hp
    unfold Push.ok at this
    simpa [and_assoc] using this
  refine pur_J (args := [p.ev, .agg ⟨[.int .u32 u.1, .int .u32 u.2]⟩]) Try.func51 rfl Try.ntmps51 rfl ?_
  have H := Own.start w
  ((repeat refine JC.seq ?_); refine JC.region ?_)
  refine JL.box H rfl rfl rfl ?_
  intro b2 w1 H
  refine JL.box H rfl rfl rfl ?_
  intro b3 w2 H
  refine JL.alloc H z23 rfl ?_
  intro b4 w3 H
  refine JL.nil ?_
  ((repeat refine Ex.normal_block ?_); refine Ex.next ?_)
  ((repeat refine JC.seq ?_); refine JC.draw 19 H mixed (by kernel_rfl) rfl ?_)
  refine JD.fieldAddr rfl Try.underlying54 rfl sh23 rfl ?_
  refine JD.fieldAddr rfl Try.underlying23 rfl sh3 rfl ?_
  refine JD.loadB 2 rfl sh3 rfl rfl rfl ?_
  refine JD.fieldAddr rfl Try.underlying54 rfl sh23 rfl ?_
  refine JD.fieldAddr rfl Try.underlying23 rfl sh3 rfl ?_
  refine JD.loadB 2 rfl sh3 rfl rfl rfl ?_
  refine JD.indexA 0 rfl rfl Try.underlying25 sh24 rfl (by decide) rfl ?_
  refine JD.loadB 1 rfl sh24 rfl rfl rfl ?_
  refine JD.call fb140 rfl rfl (fun w hw => of3_c _ _ _ w (by omega) (by omega) (by omega)) ?_
  refine JD.fieldAddr rfl Try.underlying54 rfl sh23 rfl ?_
  refine JD.fieldAddr rfl Try.underlying23 rfl sh3 rfl ?_
  refine JD.loadB 2 rfl sh3 rfl rfl rfl ?_
  refine JD.fieldAddr rfl Try.underlying54 rfl sh23 rfl ?_
  refine JD.fieldAddr rfl Try.underlying23 rfl sh3 rfl ?_
  refine JD.loadB 2 rfl sh3 rfl rfl rfl ?_
  refine JD.indexA 1 rfl rfl Try.underlying25 sh24 rfl (by decide) rfl ?_
  refine JD.loadB 1 rfl sh24 rfl rfl rfl ?_
  refine JD.call fb140 rfl rfl (fun w hw => of3_c _ _ _ w (by omega) (by omega) (by omega)) ?_
  refine JD.build s23 rfl rfl ?_
  refine JD.nil ?_
  intro w4 H
  show JL _ _ _ _ _ _ _
  refine JL.storeB 0 H rfl rfl sh23 rfl rfl rfl rfl rfl ?_
  intro w5 H
  refine JL.nil ?_
  ((repeat refine Ex.normal_block ?_); refine Ex.next ?_)
  ((repeat refine JC.seq ?_); refine JC.ret ?_)
  (repeat (first | refine Ex.ret_then ?_ | refine Ex.ret_block ?_))
  refine Ex.ret1 rfl (.cell rfl sh23 (LdAt.of_block (H.get (i := 0) rfl).2 rfl)) ⟨rfl, H.below⟩
theorem gridMoves_w (g : Grid) (lv rv : Value) (r : List Run) (p : Push) (at_ : Int) (u t : Int × Int) (w : World) (hl : SlR w lv g.land) (hr : SlR w rv r) (hcr : capOK rv) (hat : 0 ≤ at_ ∧ at_ ≤ 4294967295)
    (hu : (0 ≤ u.1 ∧ u.1 ≤ 4294967295) ∧ (0 ≤ u.2 ∧ u.2 ≤ 4294967295)) (ht : (0 ≤ t.1 ∧ t.1 ≤ 4294967295) ∧ (0 ≤ t.2 ∧ t.2 ≤ 4294967295)) :
    Pur Try.prog 8 #[g.ev lv, rv, p.ev, .int .u32 at_, .agg ⟨[.int .u32 u.1, .int .u32 u.2]⟩, .agg ⟨[.int .u32 t.1, .int .u32 t.2]⟩] w (.bool true) := by
  obtain ⟨ra, rc, rfl⟩ := hr.len
  refine pur_J (args := [g.ev lv, .slice ra r.length rc, p.ev, .int .u32 at_, .agg ⟨[.int .u32 u.1, .int .u32 u.2]⟩, .agg ⟨[.int .u32 t.1, .int .u32 t.2]⟩]) Try.func8 rfl Try.ntmps8 rfl ?_
  have H := Own.start w
  ((repeat refine JC.seq ?_); refine JC.region ?_)
  refine JL.box H rfl rfl rfl ?_
  intro b6 w1 H
  refine JL.box H rfl rfl rfl ?_
  intro b8 w2 H
  refine JL.box H rfl rfl rfl ?_
  intro b10 w3 H
  refine JL.box H rfl rfl rfl ?_
  intro b11 w4 H
  refine JL.pure rfl rfl ?_
  refine JL.nil ?_
  ((repeat refine Ex.normal_block ?_); refine Ex.next ?_)
  ((repeat refine JC.seq ?_); refine JC.region ?_)
  refine JL.callP H fb40 rfl rfl (alive_c _) ?_
  intro w5 H _
  refine JL.pure rfl rfl ?_
  refine JL.nil ?_
  ((repeat refine Ex.normal_block ?_); refine Ex.next ?_)
  ((repeat refine JC.seq ?_); refine JC.region ?_)
  refine JL.loadB 3 H rfl sh52 rfl rfl rfl ?_
  refine JL.pure rfl rfl ?_
  refine JL.buildSlice H Try.underlying134 sh50 z50 rfl rfl rfl rfl rfl ?_
  intro b29 w6 H
  refine JL.callP H fb41 rfl rfl (great_c g lv _ 4096 [((.slice ra r.length rc), r)] _ (hl.grow H.below) (H.blkSl1 (j := 0) (ev := Prod.fst) rfl [((.slice ra r.length rc), r)] rfl (by simp)) (by
    have hB := H.below
    intro p hp
    simp only [List.mem_cons, List.not_mem_nil, or_false] at hp
    subst hp
    exact hr.grow hB)) ?_
  intro w7 H _
  refine JL.pure rfl rfl ?_
  refine JL.cases 31 rfl ?_ ?_
  · intro h31
    (try simp only [Bool.not_eq_true', Bool.not_eq_false', decide_eq_true_eq, decide_eq_false_iff_not] at h31)
    
    refine JL.pass rfl rfl rfl rfl ?_
    refine JL.pass rfl rfl rfl rfl ?_
    refine JL.pure rfl rfl ?_
    refine JL.nil ?_
    ((repeat refine Ex.normal_block ?_); refine Ex.next ?_)
    ((repeat refine JC.seq ?_); refine JC.cond rfl (fun _ => ?_) (fun h => by cases h))
    ((repeat refine JC.seq ?_); refine JC.region ?_)
    refine JL.pure rfl rfl ?_
    refine JL.pure rfl rfl ?_
    refine JL.nil ?_
    ((repeat refine Ex.normal_block ?_); refine Ex.next ?_)
    ((repeat refine JC.seq ?_); refine JC.ret ?_)
    (repeat (first | refine Ex.ret_then ?_ | refine Ex.ret_block ?_))
    refine Ex.ret1 rfl (.tmp rfl) ⟨?_, H.below⟩
    first
      | rfl
      | (rw [show (growR g r p).2.1 = true from (by unfold MovesC at hmain; exact hmain.1 (by omega))])
      | (have hb : (cellsR g r).1.length = 0 := by omega
         simp [hb])
  · intro h31
    (try simp only [Bool.not_eq_true', Bool.not_eq_false', decide_eq_true_eq, decide_eq_false_iff_not] at h31)
    have hsm := great_small (g := g) (n := 4096) (l := [r]) (by simpa using h31)
    have hs : g.ok = true → g.W * g.H ≤ 4096 := fun h => by have := hsm.1 h; omega
    have hcb := cellsR_bd g r
    have hce1 : (cellsR g r).2 = 0 ∨ (cellsR g r).1.length = 0 := by unfold cellsR; split <;> simp
    have hge1 : (growR g r p).2.2 = 0 ∨ (growR g r p).2.2 = 2 := by rcases growR_small hs r p with h | ⟨_, _, h, _⟩ <;> rw [h] <;> simp
    refine JL.want rfl rfl ?_
    refine JL.pure rfl rfl ?_
    refine JL.want rfl rfl ?_
    refine JL.pure rfl rfl ?_
    refine JL.pure rfl rfl ?_
    refine JL.nil ?_
    ((repeat refine Ex.normal_block ?_); refine Ex.next ?_)
    ((repeat refine JC.seq ?_); refine JC.cond rfl (fun h => by cases h) (fun _ => ?_))
    ((repeat refine JC.seq ?_); refine JC.skip ?_)
    ((repeat refine Ex.normal_block ?_); refine Ex.next ?_)
    ((repeat refine JC.seq ?_); refine JC.region ?_)
    refine JL.loadB 4 H rfl sh52 rfl rfl rfl ?_
    refine JL.pure rfl rfl ?_
    refine JL.loadB 3 H rfl sh54 rfl rfl rfl ?_
    refine JL.call fb43 rfl rfl (grow_c g lv (.slice ra r.length rc) r p _ (hl.grow H.below) (hr.grow H.below)) ?_
    rintro _ w8 ⟨gv, rfl, K⟩
    have H := H.join K
    refine ⟨_, rfl, ?_⟩
    refine JL.pure rfl rfl ?_
    refine JL.pure rfl rfl ?_
    refine JL.pure rfl rfl ?_
    refine JL.pure rfl rfl ?_
    refine JL.pure rfl rfl ?_
    refine JL.pure rfl rfl ?_
    refine JL.pure rfl rfl ?_
    refine JL.nil ?_
    ((repeat refine Ex.normal_block ?_); refine Ex.next ?_)
    ((repeat refine JC.seq ?_); refine JC.region ?_)
    refine JL.loadB 5 H rfl sh52 rfl rfl rfl ?_
    refine JL.pure rfl rfl ?_
    refine JL.call fb49 rfl rfl (cells49_c g lv (.slice ra r.length rc) r _ (hl.grow H.below) (hr.grow H.below)) ?_
    rintro _ w9 ⟨cv, rfl, K⟩
    obtain ⟨ca, cc, rfl⟩ := K.row_slice (j := 0) rfl
    have H := H.join K
    refine ⟨_, rfl, ?_⟩
    refine JL.pure rfl rfl ?_
    refine JL.pure rfl rfl ?_
    refine JL.pure rfl rfl ?_
    refine JL.pure rfl rfl ?_
    refine JL.pure rfl rfl ?_
    refine JL.nil ?_
    ((repeat refine Ex.normal_block ?_); refine Ex.next ?_)
    ((repeat refine JC.seq ?_); refine JC.region ?_)
    refine JL.pure rfl rfl ?_
    refine JL.pure rfl rfl ?_
    refine JL.pure rfl rfl ?_
    refine JL.cases 52 rfl ?_ ?_
    · intro h52
      (try simp only [Bool.not_eq_true', Bool.not_eq_false', decide_eq_true_eq, decide_eq_false_iff_not] at h52)
      refine JL.pass rfl rfl rfl rfl ?_
      refine JL.pass rfl rfl rfl rfl ?_
      refine JL.pure rfl rfl ?_
      refine JL.pure rfl rfl ?_
      refine JL.pass rfl rfl rfl rfl ?_
      refine JL.pass rfl rfl rfl rfl ?_
      refine JL.pass rfl rfl rfl rfl ?_
      refine JL.pure rfl rfl ?_
      refine JL.nil ?_
      ((repeat refine Ex.normal_block ?_); refine Ex.next ?_)
      ((repeat refine JC.seq ?_); refine JC.cond rfl (fun _ => ?_) (fun h => by cases h))
      ((repeat refine JC.seq ?_); refine JC.region ?_)
      refine JL.pure rfl rfl ?_
      refine JL.pure rfl rfl ?_
      refine JL.want rfl rfl ?_
      refine JL.pure rfl rfl ?_
      refine JL.want rfl rfl ?_
      refine JL.pure rfl rfl ?_
      refine JL.want rfl rfl ?_
      refine JL.pure rfl rfl ?_
      refine JL.cases 65 rfl ?_ ?_
      · intro h65
        (try simp only [Bool.not_eq_true', Bool.not_eq_false', decide_eq_true_eq, decide_eq_false_iff_not] at h65)
        refine JL.pass rfl rfl rfl rfl ?_
        refine JL.pass rfl rfl rfl rfl ?_
        refine JL.pass rfl rfl rfl rfl ?_
        refine JL.want rfl rfl ?_
        refine JL.pure rfl rfl ?_
        refine JL.pure rfl rfl ?_
        refine JL.pure rfl rfl ?_
        refine JL.nil ?_
        ((repeat refine Ex.normal_block ?_); refine Ex.next ?_)
        ((repeat refine JC.seq ?_); refine JC.ret ?_)
        (repeat (first | refine Ex.ret_then ?_ | refine Ex.ret_block ?_))
        refine Ex.ret1 rfl (.tmp rfl) ⟨?_, H.below⟩
        first
          | rfl
          | (rw [show (growR g r p).2.1 = true from (by unfold MovesC at hmain; exact hmain.1 (by omega))])
          | (have hb : (cellsR g r).1.length = 0 := by omega
             simp [hb])
      · intro h65
        (try simp only [Bool.not_eq_true', Bool.not_eq_false', decide_eq_true_eq, decide_eq_false_iff_not] at h65)
        refine JL.want rfl rfl ?_
        refine JL.pure rfl rfl ?_
        refine JL.want rfl rfl ?_
        refine JL.len rfl Try.underlying68 rfl ?_
        refine JL.want rfl rfl ?_
        refine JL.pure rfl rfl ?_
        refine JL.want rfl rfl ?_
        refine JL.pure rfl rfl ?_
        refine JL.pure rfl rfl ?_
        refine JL.pure rfl rfl ?_
        refine JL.nil ?_
        ((repeat refine Ex.normal_block ?_); refine Ex.next ?_)
        ((repeat refine JC.seq ?_); refine JC.ret ?_)
        (repeat (first | refine Ex.ret_then ?_ | refine Ex.ret_block ?_))
        refine Ex.ret1 rfl (.tmp rfl) ⟨?_, H.below⟩
        first
          | rfl
          | (rw [show (growR g r p).2.1 = true from (by unfold MovesC at hmain; exact hmain.1 (by omega))])
          | (have hb : (cellsR g r).1.length = 0 := by omega
             simp [hb])
    · intro h52
      (try simp only [Bool.not_eq_true', Bool.not_eq_false', decide_eq_true_eq, decide_eq_false_iff_not] at h52)
      refine JL.want rfl rfl ?_
      refine JL.pure rfl rfl ?_
      refine JL.want rfl rfl ?_
      refine JL.pure rfl rfl ?_
      refine JL.pure rfl rfl ?_
      refine JL.pure rfl rfl ?_
      refine JL.cases 56 rfl ?_ ?_
      · intro h56
        (try simp only [Bool.not_eq_true', Bool.not_eq_false', decide_eq_true_eq, decide_eq_false_iff_not] at h56)
        refine JL.pass rfl rfl rfl rfl ?_
        refine JL.pass rfl rfl rfl rfl ?_
        refine JL.pass rfl rfl rfl rfl ?_
        refine JL.pure rfl rfl ?_
        refine JL.nil ?_
        ((repeat refine Ex.normal_block ?_); refine Ex.next ?_)
        ((repeat refine JC.seq ?_); refine JC.cond rfl (fun _ => ?_) (fun h => by cases h))
        ((repeat refine JC.seq ?_); refine JC.region ?_)
        refine JL.pure rfl rfl ?_
        refine JL.pure rfl rfl ?_
        refine JL.want rfl rfl ?_
        refine JL.pure rfl rfl ?_
        refine JL.want rfl rfl ?_
        refine JL.pure rfl rfl ?_
        refine JL.want rfl rfl ?_
        refine JL.pure rfl rfl ?_
        refine JL.cases 65 rfl ?_ ?_
        · intro h65
          (try simp only [Bool.not_eq_true', Bool.not_eq_false', decide_eq_true_eq, decide_eq_false_iff_not] at h65)
          refine JL.pass rfl rfl rfl rfl ?_
          refine JL.pass rfl rfl rfl rfl ?_
          refine JL.pass rfl rfl rfl rfl ?_
          refine JL.want rfl rfl ?_
          refine JL.pure rfl rfl ?_
          refine JL.pure rfl rfl ?_
          refine JL.pure rfl rfl ?_
          refine JL.nil ?_
          ((repeat refine Ex.normal_block ?_); refine Ex.next ?_)
          ((repeat refine JC.seq ?_); refine JC.ret ?_)
          (repeat (first | refine Ex.ret_then ?_ | refine Ex.ret_block ?_))
          refine Ex.ret1 rfl (.tmp rfl) ⟨?_, H.below⟩
          first
            | rfl
            | (rw [show (growR g r p).2.1 = true from (by unfold MovesC at hmain; exact hmain.1 (by omega))])
            | (have hb : (cellsR g r).1.length = 0 := by omega
               simp [hb])
        · intro h65
          (try simp only [Bool.not_eq_true', Bool.not_eq_false', decide_eq_true_eq, decide_eq_false_iff_not] at h65)
          refine JL.want rfl rfl ?_
          refine JL.pure rfl rfl ?_
          refine JL.want rfl rfl ?_
          refine JL.len rfl Try.underlying68 rfl ?_
          refine JL.want rfl rfl ?_
          refine JL.pure rfl rfl ?_
          refine JL.want rfl rfl ?_
          refine JL.pure rfl rfl ?_
          refine JL.pure rfl rfl ?_
          refine JL.pure rfl rfl ?_
          refine JL.nil ?_
          ((repeat refine Ex.normal_block ?_); refine Ex.next ?_)
          ((repeat refine JC.seq ?_); refine JC.ret ?_)
          (repeat (first | refine Ex.ret_then ?_ | refine Ex.ret_block ?_))
          refine Ex.ret1 rfl (.tmp rfl) ⟨?_, H.below⟩
          first
            | rfl
            | (rw [show (growR g r p).2.1 = true from (by unfold MovesC at hmain; exact hmain.1 (by omega))])
            | (have hb : (cellsR g r).1.length = 0 := by omega
               simp [hb])
      · intro h56
        (try simp only [Bool.not_eq_true', Bool.not_eq_false', decide_eq_true_eq, decide_eq_false_iff_not] at h56)
        refine JL.want rfl rfl ?_
        refine JL.pure rfl rfl ?_
        refine JL.want rfl rfl ?_
        refine JL.len rfl Try.underlying68 rfl ?_
        refine JL.want rfl rfl ?_
        refine JL.pure rfl rfl ?_
        refine JL.pure rfl rfl ?_
        refine JL.nil ?_
        ((repeat refine Ex.normal_block ?_); refine Ex.next ?_)
        ((repeat refine JC.seq ?_); refine JC.cond rfl ?_ ?_)
        · intro h60
          (try simp only [Bool.not_eq_true', Bool.not_eq_false', decide_eq_true_eq, decide_eq_false_iff_not] at h60)
          
          ((repeat refine JC.seq ?_); refine JC.region ?_)
          refine JL.pure rfl rfl ?_
          refine JL.pure rfl rfl ?_
          refine JL.want rfl rfl ?_
          refine JL.pure rfl rfl ?_
          refine JL.want rfl rfl ?_
          refine JL.pure rfl rfl ?_
          refine JL.want rfl rfl ?_
          refine JL.pure rfl rfl ?_
          refine JL.cases 65 rfl ?_ ?_
          · intro h65
            (try simp only [Bool.not_eq_true', Bool.not_eq_false', decide_eq_true_eq, decide_eq_false_iff_not] at h65)
            refine JL.pass rfl rfl rfl rfl ?_
            refine JL.pass rfl rfl rfl rfl ?_
            refine JL.pass rfl rfl rfl rfl ?_
            refine JL.want rfl rfl ?_
            refine JL.pure rfl rfl ?_
            refine JL.pure rfl rfl ?_
            refine JL.pure rfl rfl ?_
            refine JL.nil ?_
            ((repeat refine Ex.normal_block ?_); refine Ex.next ?_)
            ((repeat refine JC.seq ?_); refine JC.ret ?_)
            (repeat (first | refine Ex.ret_then ?_ | refine Ex.ret_block ?_))
            refine Ex.ret1 rfl (.tmp rfl) ⟨?_, H.below⟩
            first
              | rfl
              | (rw [show (growR g r p).2.1 = true from (by unfold MovesC at hmain; exact hmain.1 (by omega))])
              | (have hb : (cellsR g r).1.length = 0 := by omega
                 simp [hb])
          · intro h65
            (try simp only [Bool.not_eq_true', Bool.not_eq_false', decide_eq_true_eq, decide_eq_false_iff_not] at h65)
            refine JL.want rfl rfl ?_
            refine JL.pure rfl rfl ?_
            refine JL.want rfl rfl ?_
            refine JL.len rfl Try.underlying68 rfl ?_
            refine JL.want rfl rfl ?_
            refine JL.pure rfl rfl ?_
            refine JL.want rfl rfl ?_
            refine JL.pure rfl rfl ?_
            refine JL.pure rfl rfl ?_
            refine JL.pure rfl rfl ?_
            refine JL.nil ?_
            ((repeat refine Ex.normal_block ?_); refine Ex.next ?_)
            ((repeat refine JC.seq ?_); refine JC.ret ?_)
            (repeat (first | refine Ex.ret_then ?_ | refine Ex.ret_block ?_))
            refine Ex.ret1 rfl (.tmp rfl) ⟨?_, H.below⟩
            first
              | rfl
              | (rw [show (growR g r p).2.1 = true from (by unfold MovesC at hmain; exact hmain.1 (by omega))])
              | (have hb : (cellsR g r).1.length = 0 := by omega
                 simp [hb])
        · intro h60
          (try simp only [Bool.not_eq_true', Bool.not_eq_false', decide_eq_true_eq, decide_eq_false_iff_not] at h60)
          have hge : (growR g r p).2.2 = 0 := by omega
          have hpos : 0 < (cellsR g r).1.length := by omega
          obtain ⟨j, hj⟩ : ∃ j : Nat, (j : Int) = at_ % (cellsR g r).1.length := ⟨(at_ % (cellsR g r).1.length).toNat, by have := emod_bd (u := at_) (S := (cellsR g r).1.length) (by omega); omega⟩
          have hjl : j < (cellsR g r).1.length := by have := emod_bd (u := at_) (S := (cellsR g r).1.length) (by omega); omega
          obtain ⟨c, hc⟩ : ∃ c, (cellsR g r).1[j]? = some c := ⟨_, List.getElem?_eq_getElem hjl⟩
          obtain ⟨hck, hcb2⟩ := cellsR_mem (List.mem_of_getElem? hc)
          obtain ⟨_, hpk⟩ : checkedB g [r] = true ∧ p.ok = true := by
            rcases growR_small hs r p with h | ⟨h1, h2, _⟩
            · rw [h] at hge; cases hge
            · exact ⟨h1, h2⟩
          obtain ⟨hgok, hall⟩ := checkedB_b hck
          obtain ⟨hgW, hgH, hgS, _⟩ := Grid.ok_b hgok
          have hcG := canon_inG (canon_of_right (hall r (by simp))) hcb2
          unfold inG at hcG
          have hpb : (-16777216 ≤ p.Low.X ∧ p.Low.X ≤ p.High.X) ∧ (-16777216 ≤ p.Low.Y ∧ p.Low.Y ≤ p.High.Y) ∧ max p.High.X p.High.Y ≤ 16777216 := by
            have := hpk
            unfold Push.ok at this
            simpa [and_assoc] using this
          have hX := pick_bd (u := u.1) hgS hcG.1 hgW.2 hu.1.1
          have hY := pick_bd (u := u.2) hgS hcG.2 hgH.2 hu.2.1
          have hmx := of_bd (lo := p.Low.X) (hi := p.High.X) (u := t.1) hpb.1.2
          have hmy := of_bd (lo := p.Low.Y) (hi := p.High.Y) (u := t.2) hpb.2.1.2
          have mW := mul_bd (M := 0) (show 0 ≤ g.W by omega) hgW.2 (show 0 ≤ g.S by omega) hgS.2
          have mH := mul_bd (M := 0) (show 0 ≤ g.H by omega) hgH.2 (show 0 ≤ g.S by omega) hgS.2
          obtain ⟨s, hs1⟩ : ∃ s, s = pickR g c u := ⟨_, rfl⟩
          obtain ⟨m, hm1⟩ : ∃ m, m = moveR p t := ⟨_, rfl⟩
          have hpc : ∀ w, Pur Try.prog 50 #[g.ev lv, c.ev, .agg ⟨[.int .u32 u.1, .int .u32 u.2]⟩] w s.ev := fun w => by rw [hs1]; exact pick_c g lv c u w hgS (by omega) (by omega) hu.1 hu.2
          have hmc : ∀ w, Pur Try.prog 51 #[p.ev, .agg ⟨[.int .u32 t.1, .int .u32 t.2]⟩] w m.ev := fun w => by rw [hm1]; exact move_c p t w hpk ht.1 ht.2
          have hmain := moves_law hs hge hcb2 (X := s.X) (Y := s.Y) (mx := m.X) (my := m.Y) (by rw [hs1]; exact ⟨hX.1, hX.2.1⟩) (by rw [hs1]; exact ⟨hY.1, hY.2.1⟩) (by rw [hm1]; exact hmx) (by rw [hm1]; exact hmy)
          have hsb : (0 ≤ s.X ∧ s.X ≤ 13000000) ∧ 0 ≤ s.Y ∧ s.Y ≤ 13000000 := by rw [hs1]; unfold pickR; simp only; omega
          have hmb : (-16777216 ≤ m.X ∧ m.X ≤ 16777216) ∧ -16777216 ≤ m.Y ∧ m.Y ≤ 16777216 := by rw [hm1]; unfold moveR ofR; simp only; omega
          clear hs1 hm1 hX hY hmx hmy
          ((repeat refine JC.seq ?_); refine JC.skip ?_)
          ((repeat refine Ex.normal_block ?_); refine Ex.next ?_)
          ((repeat refine JC.seq ?_); refine JC.region ?_)
          refine JL.pure rfl rfl ?_
          refine JL.pure rfl rfl ?_
          refine JL.convI rfl Try.underlying24 Try.underlying3 (by unfold In64; omega) rfl ?_
          refine JL.pure rfl rfl ?_
          refine JL.len rfl Try.underlying68 rfl ?_
          first
            | refine JL.remP rfl rfl (by omega) (by omega) rfl ?_
            | refine JL.rem rfl rfl (by omega) rfl ?_
          have hsl : Sl Cell.ev (true, 2) _ (.slice ca _ cc) (cellsR g r).1 := H.rowSl (j := 0) (enc := Cell.cs) (fun _ => rfl) rfl (by omega)
          obtain ⟨_, a9, c9, he9, ha9⟩ := id hsl
          cases he9
          obtain ⟨β, off, rfl, hβ, hc9⟩ := ha9.resolve_left (by intro h; rw [h] at hpos; simp at hpos)
          refine JL.indexS j rfl rfl Try.underlying68 sh62 hj.symm hjl rfl ?_
          refine JL.load rfl sh62 (hc9 j c hc) rfl ?_
          refine JL.alloc H z62 rfl ?_
          intro b19 w10 H
          refine JL.storeB 0 H rfl rfl sh62 rfl rfl rfl rfl rfl ?_
          intro w11 H
          refine JL.nil ?_
          ((repeat refine Ex.normal_block ?_); refine Ex.next ?_)
          ((repeat refine JC.seq ?_); refine JC.region ?_)
          refine JL.loadB 7 H rfl sh52 rfl rfl rfl ?_
          refine JL.loadB 0 H rfl sh62 rfl rfl rfl ?_
          refine JL.loadB 5 H rfl sh25 rfl rfl rfl ?_
          refine JL.callP H fb50 rfl rfl (hpc _) ?_
          intro w12 H _
          refine JL.alloc H z23 rfl ?_
          intro b20 w13 H
          refine JL.storeB 0 H rfl rfl sh23 rfl rfl rfl rfl rfl ?_
          intro w14 H
          refine JL.nil ?_
          ((repeat refine Ex.normal_block ?_); refine Ex.next ?_)
          ((repeat refine JC.seq ?_); refine JC.region ?_)
          refine JL.loadB 7 H rfl sh54 rfl rfl rfl ?_
          refine JL.loadB 5 H rfl sh25 rfl rfl rfl ?_
          refine JL.callP H fb51 rfl rfl (hmc _) ?_
          intro w15 H _
          refine JL.alloc H z23 rfl ?_
          intro b21 w16 H
          refine JL.storeB 0 H rfl rfl sh23 rfl rfl rfl rfl rfl ?_
          intro w17 H
          refine JL.nil ?_
          ((repeat refine Ex.normal_block ?_); refine Ex.next ?_)
          ((repeat refine JC.seq ?_); refine JC.region ?_)
          refine JL.fieldAddr rfl Try.underlying23 rfl sh3 rfl ?_
          refine JL.loadB 1 H rfl sh3 rfl rfl rfl ?_
          refine JL.fieldAddr rfl Try.underlying23 rfl sh3 rfl ?_
          refine JL.loadB 0 H rfl sh3 rfl rfl rfl ?_
          refine JL.arith rfl (by unfold In64; omega) rfl ?_
          refine JL.fieldAddr rfl Try.underlying23 rfl sh3 rfl ?_
          refine JL.loadB 1 H rfl sh3 rfl rfl rfl ?_
          refine JL.fieldAddr rfl Try.underlying23 rfl sh3 rfl ?_
          refine JL.loadB 0 H rfl sh3 rfl rfl rfl ?_
          refine JL.arith rfl (by unfold In64; omega) rfl ?_
          refine JL.build s23 rfl rfl ?_
          refine JL.storeB 1 H rfl rfl sh23 rfl rfl rfl rfl rfl ?_
          intro w18 H
          refine JL.nil ?_
          ((repeat refine Ex.normal_block ?_); refine Ex.next ?_)
          ((repeat refine JC.seq ?_); refine JC.region ?_)
          refine JL.fieldAddr rfl Try.underlying23 rfl sh3 rfl ?_
          refine JL.loadB 1 H rfl sh3 rfl rfl rfl ?_
          refine JL.pure rfl rfl ?_
          refine JL.pure rfl rfl ?_
          refine JL.cases 100 rfl ?_ ?_
          · intro h100
            (try simp only [Bool.not_eq_true', Bool.not_eq_false', decide_eq_true_eq, decide_eq_false_iff_not] at h100)
            refine JL.pass rfl rfl rfl rfl ?_
            refine JL.pass rfl rfl rfl rfl ?_
            refine JL.pass rfl rfl rfl rfl ?_
            refine JL.pure rfl rfl ?_
            refine JL.pure rfl rfl ?_
            refine JL.pass rfl rfl rfl rfl ?_
            refine JL.pass rfl rfl rfl rfl ?_
            refine JL.pass rfl rfl rfl rfl ?_
            refine JL.pass rfl rfl rfl rfl ?_
            refine JL.pass rfl rfl rfl rfl ?_
            refine JL.pass rfl rfl rfl rfl ?_
            refine JL.pass rfl rfl rfl rfl ?_
            refine JL.pass rfl rfl rfl rfl ?_
            refine JL.pure rfl rfl ?_
            refine JL.pure rfl rfl ?_
            refine JL.pass rfl rfl rfl rfl ?_
            refine JL.pass rfl rfl rfl rfl ?_
            refine JL.pass rfl rfl rfl rfl ?_
            refine JL.pass rfl rfl rfl rfl ?_
            refine JL.pass rfl rfl rfl rfl ?_
            refine JL.pass rfl rfl rfl rfl ?_
            refine JL.pass rfl rfl rfl rfl ?_
            refine JL.pass rfl rfl rfl rfl ?_
            refine JL.pure rfl rfl ?_
            refine JL.nil ?_
            ((repeat refine Ex.normal_block ?_); refine Ex.next ?_)
            ((repeat refine JC.seq ?_); refine JC.cond rfl (fun _ => ?_) (fun h => by cases h))
            ((repeat refine JC.seq ?_); refine JC.region ?_)
            refine JL.pure rfl rfl ?_
            refine JL.pure rfl rfl ?_
            refine JL.want rfl rfl ?_
            refine JL.pure rfl rfl ?_
            refine JL.pure rfl rfl ?_
            refine JL.pure rfl rfl ?_
            refine JL.nil ?_
            ((repeat refine Ex.normal_block ?_); refine Ex.next ?_)
            ((repeat refine JC.seq ?_); refine JC.ret ?_)
            (repeat (first | refine Ex.ret_then ?_ | refine Ex.ret_block ?_))
            refine Ex.ret1 rfl (.tmp rfl) ⟨?_, H.below⟩
            first
              | rfl
              | (rw [show (growR g r p).2.1 = true from (by unfold MovesC at hmain; exact hmain.1 (by omega))])
              | (have hb : (cellsR g r).1.length = 0 := by omega
                 simp [hb])
          · intro h100
            (try simp only [Bool.not_eq_true', Bool.not_eq_false', decide_eq_true_eq, decide_eq_false_iff_not] at h100)
            refine JL.want rfl rfl ?_
            refine JL.fieldAddr rfl Try.underlying23 rfl sh3 rfl ?_
            refine JL.want rfl rfl ?_
            refine JL.loadB 1 H rfl sh3 rfl rfl rfl ?_
            refine JL.want rfl rfl ?_
            refine JL.pure rfl rfl ?_
            refine JL.pure rfl rfl ?_
            refine JL.pure rfl rfl ?_
            refine JL.cases 105 rfl ?_ ?_
            · intro h105
              (try simp only [Bool.not_eq_true', Bool.not_eq_false', decide_eq_true_eq, decide_eq_false_iff_not] at h105)
              refine JL.pass rfl rfl rfl rfl ?_
              refine JL.pass rfl rfl rfl rfl ?_
              refine JL.pass rfl rfl rfl rfl ?_
              refine JL.pass rfl rfl rfl rfl ?_
              refine JL.pass rfl rfl rfl rfl ?_
              refine JL.pass rfl rfl rfl rfl ?_
              refine JL.pass rfl rfl rfl rfl ?_
              refine JL.pass rfl rfl rfl rfl ?_
              refine JL.pure rfl rfl ?_
              refine JL.pure rfl rfl ?_
              refine JL.pass rfl rfl rfl rfl ?_
              refine JL.pass rfl rfl rfl rfl ?_
              refine JL.pass rfl rfl rfl rfl ?_
              refine JL.pass rfl rfl rfl rfl ?_
              refine JL.pass rfl rfl rfl rfl ?_
              refine JL.pass rfl rfl rfl rfl ?_
              refine JL.pass rfl rfl rfl rfl ?_
              refine JL.pass rfl rfl rfl rfl ?_
              refine JL.pure rfl rfl ?_
              refine JL.nil ?_
              ((repeat refine Ex.normal_block ?_); refine Ex.next ?_)
              ((repeat refine JC.seq ?_); refine JC.cond rfl (fun _ => ?_) (fun h => by cases h))
              ((repeat refine JC.seq ?_); refine JC.region ?_)
              refine JL.pure rfl rfl ?_
              refine JL.pure rfl rfl ?_
              refine JL.want rfl rfl ?_
              refine JL.pure rfl rfl ?_
              refine JL.pure rfl rfl ?_
              refine JL.pure rfl rfl ?_
              refine JL.nil ?_
              ((repeat refine Ex.normal_block ?_); refine Ex.next ?_)
              ((repeat refine JC.seq ?_); refine JC.ret ?_)
              (repeat (first | refine Ex.ret_then ?_ | refine Ex.ret_block ?_))
              refine Ex.ret1 rfl (.tmp rfl) ⟨?_, H.below⟩
              first
                | rfl
                | (rw [show (growR g r p).2.1 = true from (by unfold MovesC at hmain; exact hmain.1 (by omega))])
                | (have hb : (cellsR g r).1.length = 0 := by omega
                   simp [hb])
            · intro h105
              (try simp only [Bool.not_eq_true', Bool.not_eq_false', decide_eq_true_eq, decide_eq_false_iff_not] at h105)
              refine JL.want rfl rfl ?_
              refine JL.fieldAddr rfl Try.underlying23 rfl sh3 rfl ?_
              refine JL.want rfl rfl ?_
              refine JL.loadB 1 H rfl sh3 rfl rfl rfl ?_
              refine JL.want rfl rfl ?_
              refine JL.fieldAddr rfl Try.underlying52 rfl sh3 rfl ?_
              refine JL.want rfl rfl ?_
              refine JL.loadB 9 H rfl sh3 rfl rfl rfl ?_
              refine JL.want rfl rfl ?_
              refine JL.fieldAddr rfl Try.underlying52 rfl sh3 rfl ?_
              refine JL.want rfl rfl ?_
              refine JL.loadB 9 H rfl sh3 rfl rfl rfl ?_
              refine JL.want rfl rfl ?_
              refine JL.arith rfl (by unfold In64; omega) rfl ?_
              refine JL.want rfl rfl ?_
              refine JL.pure rfl rfl ?_
              refine JL.pure rfl rfl ?_
              refine JL.pure rfl rfl ?_
              refine JL.cases 115 rfl ?_ ?_
              · intro h115
                (try simp only [Bool.not_eq_true', Bool.not_eq_false', decide_eq_true_eq, decide_eq_false_iff_not] at h115)
                refine JL.pass rfl rfl rfl rfl ?_
                refine JL.pass rfl rfl rfl rfl ?_
                refine JL.pass rfl rfl rfl rfl ?_
                refine JL.pass rfl rfl rfl rfl ?_
                refine JL.pass rfl rfl rfl rfl ?_
                refine JL.pass rfl rfl rfl rfl ?_
                refine JL.pass rfl rfl rfl rfl ?_
                refine JL.pass rfl rfl rfl rfl ?_
                refine JL.pure rfl rfl ?_
                refine JL.nil ?_
                ((repeat refine Ex.normal_block ?_); refine Ex.next ?_)
                ((repeat refine JC.seq ?_); refine JC.cond rfl (fun _ => ?_) (fun h => by cases h))
                ((repeat refine JC.seq ?_); refine JC.region ?_)
                refine JL.pure rfl rfl ?_
                refine JL.pure rfl rfl ?_
                refine JL.want rfl rfl ?_
                refine JL.pure rfl rfl ?_
                refine JL.pure rfl rfl ?_
                refine JL.pure rfl rfl ?_
                refine JL.nil ?_
                ((repeat refine Ex.normal_block ?_); refine Ex.next ?_)
                ((repeat refine JC.seq ?_); refine JC.ret ?_)
                (repeat (first | refine Ex.ret_then ?_ | refine Ex.ret_block ?_))
                refine Ex.ret1 rfl (.tmp rfl) ⟨?_, H.below⟩
                first
                  | rfl
                  | (rw [show (growR g r p).2.1 = true from (by unfold MovesC at hmain; exact hmain.1 (by omega))])
                  | (have hb : (cellsR g r).1.length = 0 := by omega
                     simp [hb])
              · intro h115
                (try simp only [Bool.not_eq_true', Bool.not_eq_false', decide_eq_true_eq, decide_eq_false_iff_not] at h115)
                refine JL.want rfl rfl ?_
                refine JL.fieldAddr rfl Try.underlying23 rfl sh3 rfl ?_
                refine JL.want rfl rfl ?_
                refine JL.loadB 1 H rfl sh3 rfl rfl rfl ?_
                refine JL.want rfl rfl ?_
                refine JL.fieldAddr rfl Try.underlying52 rfl sh3 rfl ?_
                refine JL.want rfl rfl ?_
                refine JL.loadB 9 H rfl sh3 rfl rfl rfl ?_
                refine JL.want rfl rfl ?_
                refine JL.fieldAddr rfl Try.underlying52 rfl sh3 rfl ?_
                refine JL.want rfl rfl ?_
                refine JL.loadB 9 H rfl sh3 rfl rfl rfl ?_
                refine JL.want rfl rfl ?_
                refine JL.arith rfl (by unfold In64; omega) rfl ?_
                refine JL.want rfl rfl ?_
                refine JL.pure rfl rfl ?_
                refine JL.pure rfl rfl ?_
                refine JL.nil ?_
                ((repeat refine Ex.normal_block ?_); refine Ex.next ?_)
                ((repeat refine JC.seq ?_); refine JC.cond rfl ?_ ?_)
                · intro h124
                  (try simp only [Bool.not_eq_true', Bool.not_eq_false', decide_eq_true_eq, decide_eq_false_iff_not] at h124)
                  
                  ((repeat refine JC.seq ?_); refine JC.region ?_)
                  refine JL.pure rfl rfl ?_
                  refine JL.pure rfl rfl ?_
                  refine JL.want rfl rfl ?_
                  refine JL.pure rfl rfl ?_
                  refine JL.pure rfl rfl ?_
                  refine JL.pure rfl rfl ?_
                  refine JL.nil ?_
                  ((repeat refine Ex.normal_block ?_); refine Ex.next ?_)
                  ((repeat refine JC.seq ?_); refine JC.ret ?_)
                  (repeat (first | refine Ex.ret_then ?_ | refine Ex.ret_block ?_))
                  refine Ex.ret1 rfl (.tmp rfl) ⟨?_, H.below⟩
                  first
                    | rfl
                    | (rw [show (growR g r p).2.1 = true from (by unfold MovesC at hmain; exact hmain.1 (by omega))])
                    | (have hb : (cellsR g r).1.length = 0 := by omega
                       simp [hb])
                · intro h124
                  (try simp only [Bool.not_eq_true', Bool.not_eq_false', decide_eq_true_eq, decide_eq_false_iff_not] at h124)
                  have hin : ¬(s.X + m.X < 0 ∨ s.Y + m.Y < 0 ∨ s.X + m.X ≥ g.W * g.S ∨ s.Y + m.Y ≥ g.H * g.S) := by omega
                  unfold MovesC at hmain
                  obtain ⟨dd, hd1, hd2, hd3, hd4, hd5⟩ := hmain.2 hin
                  clear hmain
                  ((repeat refine JC.seq ?_); refine JC.skip ?_)
                  ((repeat refine Ex.normal_block ?_); refine Ex.next ?_)
                  ((repeat refine JC.seq ?_); refine JC.region ?_)
                  refine JL.loadB 9 H rfl sh52 rfl rfl rfl ?_
                  refine JL.loadB 1 H rfl sh23 rfl rfl rfl ?_
                  refine JL.callP H fb52 rfl rfl (v := .tuple #[dd.ev, .int .i64 0]) (by have := cellOf_c g lv ⟨s.X + m.X, s.Y + m.Y⟩ _ (hl.grow H.below); rw [hd1] at this; exact this) ?_
                  intro w19 H _
                  refine JL.pure rfl rfl ?_
                  refine JL.pure rfl rfl ?_
                  refine JL.pure rfl rfl ?_
                  refine JL.alloc H z62 rfl ?_
                  intro b22 w20 H
                  refine JL.storeB 0 H rfl rfl sh62 rfl rfl rfl rfl rfl ?_
                  intro w21 H
                  refine JL.pure rfl rfl ?_
                  refine JL.nil ?_
                  ((repeat refine Ex.normal_block ?_); refine Ex.next ?_)
                  ((repeat refine JC.seq ?_); refine JC.drawS H mixed ?_)
                  intro w22 H
                  refine DR.any 0 7 H (by kernel_rfl) ?_
                  refine JD.loadB 10 rfl sh52 rfl rfl rfl ?_
                  refine JD.fieldAddr rfl Try.underlying62 rfl sh3 rfl ?_
                  refine JD.loadB 0 rfl sh3 rfl rfl rfl ?_
                  refine JD.fieldAddr rfl Try.underlying62 rfl sh3 rfl ?_
                  refine JD.loadB 0 rfl sh3 rfl rfl rfl ?_
                  refine JD.callN (fun v => runRow v (oneR dd.X dd.Y)) fb45 rfl rfl (fun w1 hw => one_c _ _ w1) ?_
                  refine JD.loadB 9 rfl sh54 rfl rfl rfl ?_
                  refine JD.nil ?_
                  intro w23 v141 H
                  simp only [Option.isSome_none, Option.isSome_some, cond_false, cond_true] at H
                  show DR _ _ _ _ _ _ _
                  refine DR.op rfl (by kernel_rfl) ?_
                  refine JL.call fb46 rfl rfl (back_c g lv v141 (oneR dd.X dd.Y) p _ (hl.grow H.below) (runSl H (j := 0) rfl (by simp [oneR]))) ?_
                  rintro _ w24 ⟨bv, rfl, K⟩
                  have H := H.join K
                  refine ⟨_, rfl, ?_⟩
                  refine DR.next ?_
                  refine DR.any 8 13 H (by kernel_rfl) ?_
                  refine JD.pure rfl rfl ?_
                  refine JD.pure rfl rfl ?_
                  refine JD.pure rfl rfl ?_
                  refine JD.pure rfl rfl ?_
                  refine JD.pure rfl rfl ?_
                  refine JD.nil ?_
                  intro w25 H
                  show DR _ _ _ _ _ _ _
                  refine DR.done rfl ?_
                  ((repeat refine Ex.normal_block ?_); refine Ex.next ?_)
                  ((repeat refine JC.seq ?_); refine JC.region ?_)
                  refine JL.pure rfl rfl ?_
                  refine JL.pure rfl rfl ?_
                  refine JL.want rfl rfl ?_
                  refine JL.pure rfl rfl ?_
                  refine JL.want rfl rfl ?_
                  refine JL.pure rfl rfl ?_
                  refine JL.re 149 rfl (v' := .bool true) rfl ?_
                  refine JL.pure rfl rfl ?_
                  refine JL.pure rfl rfl ?_
                  refine JL.want rfl rfl ?_
                  refine JL.pure rfl rfl ?_
                  refine JL.want rfl rfl ?_
                  refine JL.loadB 2 H rfl sh62 rfl rfl rfl ?_
                  refine JL.want rfl rfl ?_
                  refine JL.callP H fb48 rfl rfl (v := .bool true) (by have := has_c _ (growR g r p).1 dd _ (runSl H (j := 7) rfl (by have := growR_len g r p; omega)); rw [hd2] at this; exact this) ?_
                  intro w26 H _
                  refine JL.pure rfl rfl ?_
                  refine JL.pure rfl rfl ?_
                  refine JL.want rfl rfl ?_
                  refine JL.pure rfl rfl ?_
                  refine JL.want rfl rfl ?_
                  refine JL.pure rfl rfl ?_
                  refine JL.re 158 rfl (v' := .bool true) (by rw [hd3]; rfl) ?_
                  refine JL.pure rfl rfl ?_
                  refine JL.pure rfl rfl ?_
                  refine JL.want rfl rfl ?_
                  refine JL.pure rfl rfl ?_
                  refine JL.want rfl rfl ?_
                  refine JL.loadB 5 H rfl sh62 rfl rfl rfl ?_
                  refine JL.want rfl rfl ?_
                  refine JL.callP H fb48 rfl rfl (v := .bool true) (by have := has_c _ (backR g (oneR dd.X dd.Y) p).1 c _ (runSl H (j := 0) rfl (by have := backR_len g (oneR dd.X dd.Y) p; omega)); rw [hd4] at this; exact this) ?_
                  intro w27 H _
                  refine JL.pure rfl rfl ?_
                  refine JL.pure rfl rfl ?_
                  refine JL.nil ?_
                  ((repeat refine Ex.normal_block ?_); refine Ex.next ?_)
                  ((repeat refine JC.seq ?_); refine JC.ret ?_)
                  (repeat (first | refine Ex.ret_then ?_ | refine Ex.ret_block ?_))
                  refine Ex.ret1 rfl (.tmp rfl) ⟨?_, H.below⟩
                  first
                    | rfl
                    | (rw [show (growR g r p).2.1 = true from (by unfold MovesC at hmain; exact hmain.1 (by omega))])
                    | (have hb : (cellsR g r).1.length = 0 := by omega
                       simp [hb])
end Go.J

namespace Go.J
set_option linter.unusedSimpArgs false
set_option linter.unusedVariables false
/-! plain: runs that stand right, one by one -/
def rowIn (W H : Int) (r : Run) : Prop := (0 ≤ r.Y ∧ r.Y ≤ H - 1) ∧ 0 ≤ r.From ∧ r.From < r.To ∧ r.To ≤ W
theorem canon_step {W H : Int} {rs : List Run} {k : Nat} (h : Canon W H (rs.take k)) (hk : k < rs.length) (h1 : rowIn W H rs[k]) (h2 : ∀ (h0 : 0 < k), rs[k - 1].Y < rs[k].Y ∨ rs[k].Y = rs[k - 1].Y ∧ rs[k - 1].To < rs[k].From) :
    Canon W H (rs.take (k + 1)) := by
  rw [List.take_succ_eq_append_getElem hk]
  unfold rowIn at h1
  refine ⟨?_, ?_⟩
  · intro r hr
    rcases List.mem_append.1 hr with hr | hr
    · exact h.rng r hr
    · simp only [List.mem_singleton] at hr
      subst hr
      omega
  · refine List.pairwise_append.2 ⟨h.ord, by simp, ?_⟩
    intro r hr x hx
    simp only [List.mem_singleton] at hx
    subst hx
    obtain ⟨j, hj, rfl⟩ := List.getElem_of_mem hr
    simp only [List.length_take] at hj
    have h0 : 0 < k := by omega
    have h3 := h2 h0
    by_cases hjk : j = k - 1
    · subst hjk
      simp only [List.getElem_take]
      omega
    · have h4 := List.pairwise_iff_getElem.1 h.ord j (k - 1) (by simp; omega) (by simp; omega) (by omega)
      have h5 := h.rng ((rs.take k)[k - 1]'(by simp; omega)) (List.getElem_mem _)
      simp only [List.getElem_take] at h4 h5 ⊢
      omega
theorem canon_at {W H : Int} {rs : List Run} {k : Nat} (h : Canon W H rs) (hk : k < rs.length) : rowIn W H rs[k] ∧ ∀ (h0 : 0 < k), rs[k - 1].Y < rs[k].Y ∨ rs[k].Y = rs[k - 1].Y ∧ rs[k - 1].To < rs[k].From := by
  constructor
  · have := h.rng rs[k] (List.getElem_mem hk)
    unfold rowIn
    omega
  · intro h0
    have := List.pairwise_iff_getElem.1 h.ord (k - 1) k (by omega) hk (by omega)
    omega
theorem canon_nil {W H : Int} : Canon W H [] := ⟨by simp, List.Pairwise.nil⟩
/-! plain: the cells of a grid, in order -/
def everyR (W H : Nat) : List Cell := (List.range H).flatMap fun (y : Nat) => (List.range W).map fun (x : Nat) => (⟨x, y⟩ : Cell)
theorem everyR_succ (W H : Nat) : everyR W (H + 1) = everyR W H ++ (List.range W).map fun (x : Nat) => (⟨x, H⟩ : Cell) := by
  unfold everyR; rw [List.range_succ, List.flatMap_append]; simp
theorem everyR_mem {W H : Nat} {c : Cell} : c ∈ everyR W H ↔ (0 ≤ c.X ∧ c.X < W) ∧ 0 ≤ c.Y ∧ c.Y < H := by
  unfold everyR
  rw [List.mem_flatMap]
  constructor
  · rintro ⟨y, hy, h⟩
    obtain ⟨x, hx, rfl⟩ := List.mem_map.1 h
    rw [List.mem_range] at hx hy
    simp only
    omega
  · rintro ⟨h1, h2⟩
    refine ⟨c.Y.toNat, List.mem_range.2 (by omega), List.mem_map.2 ⟨c.X.toNat, List.mem_range.2 (by omega), ?_⟩⟩
    cases c
    simp only [Cell.mk.injEq] at *
    omega
theorem everyR_len (W H : Nat) : (everyR W H).length = W * H := by
  induction H with
  | zero => simp [everyR]
  | succ H ih => rw [everyR_succ, List.length_append, ih]; simp [Nat.mul_succ]
theorem every_inG {g : Grid} (hW : 0 ≤ g.W) (hH : 0 ≤ g.H) {c : Cell} : c ∈ everyR g.W.toNat g.H.toNat ↔ inG g c := by
  rw [everyR_mem]; unfold inG; omega
end Go.J
