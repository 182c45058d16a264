/-
  Lemmas for the statements of this seat; no statement is proved here. No condition.
-/
import Derived.Test.YtfbmgmdjaoackaaG6
namespace Go.J
set_option linter.unusedSimpArgs false
set_option linter.unusedVariables false
/-! plain: spans of a row, in order -/
def spCov (l : List Span) (x : Int) : Prop := ∃ s ∈ l, s.a ≤ x ∧ x < s.b
def SpSep (l : List Span) : Prop := l.Pairwise (fun s t => s.b < t.a) ∧ ∀ s ∈ l, s.a < s.b
theorem spCov_append {l m : List Span} {x : Int} : spCov (l ++ m) x ↔ spCov l x ∨ spCov m x := by
  unfold spCov
  simp only [List.mem_append]
  constructor
  · rintro ⟨s, h | h, h2⟩
    · exact .inl ⟨s, h, h2⟩
    · exact .inr ⟨s, h, h2⟩
  · rintro (⟨s, h, h2⟩ | ⟨s, h, h2⟩)
    · exact ⟨s, .inl h, h2⟩
    · exact ⟨s, .inr h, h2⟩
theorem spCov_one {s : Span} {x : Int} : spCov [s] x ↔ s.a ≤ x ∧ x < s.b := by simp [spCov]
theorem spCov_perm {l m : List Span} (h : l.Perm m) {x : Int} : spCov l x ↔ spCov m x := by
  unfold spCov
  constructor
  · rintro ⟨s, h1, h2⟩; exact ⟨s, h.mem_iff.1 h1, h2⟩
  · rintro ⟨s, h1, h2⟩; exact ⟨s, h.mem_iff.2 h1, h2⟩
theorem mstep_ok {out : List Span} {x : Span} (hs : SpSep out) (hx : x.a < x.b) (hl : ∀ l, out.getLast? = some l → l.a ≤ x.a) :
    SpSep (mstep out x) ∧ (∀ y, spCov (mstep out x) y ↔ spCov out y ∨ (x.a ≤ y ∧ y < x.b)) ∧ ∀ l, (mstep out x).getLast? = some l → l.a ≤ x.a := by
  rcases List.eq_nil_or_concat out with rfl | ⟨init, l, rfl⟩
  · have : mstep [] x = [x] := rfl
    rw [this]
    refine ⟨⟨by simp, by simpa using hx⟩, fun y => by simp [spCov], fun l hl => ?_⟩
    simp at hl
    subst hl
    omega
  · have hla : l.a ≤ x.a := hl l (by simp)
    have hsep := hs.1
    rw [List.concat_eq_append, List.pairwise_append] at hsep
    have hlb : l.a < l.b := hs.2 l (by simp)
    have hinit : ∀ s ∈ init, s.b < l.a := fun s h => hsep.2.2 s h l (by simp)
    have hm : mstep (init.concat l) x = if x.a ≤ l.b then init ++ [⟨l.a, max l.b x.b⟩] else init ++ [l] ++ [x] := by
      unfold mstep
      simp
    rw [hm]
    have hne : ∀ s ∈ init, s.a < s.b := fun s h => hs.2 s (by simp [h])
    split
    · rename_i hj
      refine ⟨⟨?_, ?_⟩, fun y => ?_, fun l' hl' => ?_⟩
      · rw [List.pairwise_append]
        exact ⟨hsep.1, by simp, fun s h t ht => by simp at ht; subst ht; exact hinit s h⟩
      · intro s h
        simp at h
        rcases h with h | rfl
        · exact hne s h
        · simp only; omega
      · rw [List.concat_eq_append, spCov_append, spCov_append, spCov_one, spCov_one]
        simp only
        constructor
        · rintro (h | h)
          · exact .inl (.inl h)
          · by_cases hy : y < l.b
            · exact .inl (.inr ⟨h.1, hy⟩)
            · exact .inr (by omega)
        · rintro ((h | h) | h)
          · exact .inl h
          · exact .inr (by omega)
          · exact .inr (by omega)
      · simp at hl'
        subst hl'
        exact hla
    · rename_i hj
      refine ⟨⟨?_, ?_⟩, fun y => ?_, fun l' hl' => ?_⟩
      · rw [List.pairwise_append]
        refine ⟨?_, by simp, fun s h t ht => ?_⟩
        · rw [List.pairwise_append]; exact hsep
        · simp at ht
          subst ht
          simp at h
          rcases h with h | rfl
          · have := hinit s h; omega
          · omega
      · intro s h
        simp at h
        rcases h with h | rfl | rfl
        · exact hne s h
        · exact hlb
        · exact hx
      · rw [List.concat_eq_append, spCov_append, spCov_one]
      · simp at hl'
        subst hl'
        omega
theorem merge_ok : ∀ (ys out : List Span), SpSep out → (∀ s ∈ ys, s.a < s.b) → ys.Pairwise (fun s t => s.a ≤ t.a) → (∀ l, out.getLast? = some l → ∀ s ∈ ys, l.a ≤ s.a) →
    SpSep (ys.foldl mstep out) ∧ ∀ y, spCov (ys.foldl mstep out) y ↔ spCov out y ∨ spCov ys y := by
  intro ys
  induction ys with
  | nil => intro out h _ _ _; exact ⟨h, fun y => by simp [spCov]⟩
  | cons x ys ih =>
    intro out hs hne hp hl
    obtain ⟨h1, h2, h3⟩ := mstep_ok hs (hne x List.mem_cons_self) (fun l h => hl l h x List.mem_cons_self)
    rw [List.pairwise_cons] at hp
    obtain ⟨h4, h5⟩ := ih (mstep out x) h1 (fun s h => hne s (List.mem_cons_of_mem _ h)) hp.2 (fun l h s hs' => by
      have := h3 l h
      have := hp.1 s hs'
      omega)
    refine ⟨h4, fun y => ?_⟩
    rw [List.foldl_cons, h5 y, h2 y, show x :: ys = [x] ++ ys from rfl, spCov_append, spCov_one, or_assoc]
theorem sep_unique : ∀ (R R' : List Span), SpSep R → SpSep R' → (∀ x, spCov R x ↔ spCov R' x) → R = R' := by
  intro R
  induction R with
  | nil =>
    intro R' _ h' hc
    cases R' with
    | nil => rfl
    | cons r rs =>
      exfalso
      have : spCov (r :: rs) r.a := ⟨r, List.mem_cons_self, by omega, h'.2 r List.mem_cons_self⟩
      obtain ⟨s, hs, _⟩ := (hc r.a).2 this
      cases hs
  | cons r rs ih =>
    intro R' h h' hc
    cases R' with
    | nil =>
      exfalso
      have : spCov (r :: rs) r.a := ⟨r, List.mem_cons_self, by omega, h.2 r List.mem_cons_self⟩
      obtain ⟨s, hs, _⟩ := (hc r.a).1 this
      cases hs
    | cons r' rs' =>
      have low : ∀ {q : Span} {qs : List Span}, SpSep (q :: qs) → ∀ {x}, spCov qs x → q.b < x := by
        rintro q qs hq x ⟨s, hs, h1, h2⟩
        have := (List.pairwise_cons.1 hq.1).1 s hs
        omega
      have split : ∀ {q : Span} {qs : List Span} {x : Int}, spCov (q :: qs) x ↔ (q.a ≤ x ∧ x < q.b) ∨ spCov qs x := by
        intro q qs x
        rw [show q :: qs = [q] ++ qs from rfl, spCov_append, spCov_one]
      have hr := h.2 r List.mem_cons_self
      have hr' := h'.2 r' List.mem_cons_self
      have ha : r.a = r'.a := by
        have h1 := split.1 ((hc r.a).1 (split.2 (.inl ⟨by omega, hr⟩)))
        have h2 := split.1 ((hc r'.a).2 (split.2 (.inl ⟨by omega, hr'⟩)))
        have h3 : r'.a ≤ r.a := by
          rcases h1 with h1 | h1
          · exact h1.1
          · have := low h' h1; omega
        have h4 : r.a ≤ r'.a := by
          rcases h2 with h2 | h2
          · exact h2.1
          · have := low h h2; omega
        omega
      have hb : r.b = r'.b := by
        rcases Int.lt_trichotomy r.b r'.b with hlt | heq | hgt
        · exfalso
          rcases split.1 ((hc r.b).2 (split.2 (.inl ⟨by omega, hlt⟩))) with h1 | h1
          · omega
          · have := low h h1; omega
        · exact heq
        · exfalso
          rcases split.1 ((hc r'.b).1 (split.2 (.inl ⟨by omega, hgt⟩))) with h1 | h1
          · omega
          · have := low h' h1; omega
      have hrr : r = r' := by
        cases r; cases r'; simp_all
      subst hrr
      congr 1
      refine ih rs' ⟨(List.pairwise_cons.1 h.1).2, fun s hs => h.2 s (List.mem_cons_of_mem _ hs)⟩ ⟨(List.pairwise_cons.1 h'.1).2, fun s hs => h'.2 s (List.mem_cons_of_mem _ hs)⟩ fun x => ?_
      constructor
      · intro hx
        rcases split.1 ((hc x).1 (split.2 (.inr hx))) with h1 | h1
        · have := low h hx; omega
        · exact h1
      · intro hx
        rcases split.1 ((hc x).2 (split.2 (.inr hx))) with h1 | h1
        · have := low h' hx; omega
        · exact h1
def sins (x : Span) : List Span → List Span
  | [] => [x]
  | y :: r => if x.a ≤ y.a then x :: y :: r else y :: sins x r
def ssort : List Span → List Span
  | [] => []
  | x :: r => sins x (ssort r)
theorem sins_perm (x : Span) : ∀ l, (sins x l).Perm (x :: l) := by
  intro l
  induction l with
  | nil => exact List.Perm.refl _
  | cons y r ih =>
    unfold sins
    split
    · exact List.Perm.refl _
    · exact (ih.cons y).trans (List.Perm.swap _ _ _)
theorem ssort_perm : ∀ l, (ssort l).Perm l := by
  intro l
  induction l with
  | nil => exact List.Perm.refl _
  | cons x r ih => exact (sins_perm x _).trans (ih.cons x)
theorem sins_sorted (x : Span) : ∀ l : List Span, l.Pairwise (fun s t => s.a ≤ t.a) → (sins x l).Pairwise (fun s t => s.a ≤ t.a) := by
  intro l
  induction l with
  | nil => intro _; simp [sins]
  | cons y r ih =>
    intro h
    rw [List.pairwise_cons] at h
    unfold sins
    split
    · rename_i hxy
      rw [List.pairwise_cons]
      refine ⟨fun t ht => ?_, List.pairwise_cons.2 h⟩
      cases ht with
      | head => exact hxy
      | tail _ ht => have := h.1 t ht; omega
    · rename_i hxy
      rw [List.pairwise_cons]
      refine ⟨fun t ht => ?_, ih h.2⟩
      rcases List.mem_cons.1 ((sins_perm x r).mem_iff.1 ht) with rfl | ht
      · omega
      · exact h.1 t ht
theorem ssort_sorted : ∀ l, (ssort l).Pairwise (fun s t => s.a ≤ t.a) := by
  intro l
  induction l with
  | nil => exact List.Pairwise.nil
  | cons x r ih => exact sins_sorted x _ ih
/-- the spans of a row, in order, none of which touch -/
def norm (l : List Span) : List Span := mergeL (ssort l)
theorem norm_ok {l : List Span} (h : ∀ s ∈ l, s.a < s.b) : SpSep (norm l) ∧ ∀ x, spCov (norm l) x ↔ spCov l x := by
  have hp := ssort_perm l
  obtain ⟨h1, h2⟩ := merge_ok (ssort l) [] ⟨List.Pairwise.nil, by simp⟩ (fun s hs => h s (hp.mem_iff.1 hs)) (ssort_sorted l) (by simp)
  refine ⟨h1, fun x => ?_⟩
  rw [show norm l = (ssort l).foldl mstep [] from rfl, h2 x, spCov_perm hp]
  simp [spCov]
theorem merge_norm {ys l : List Span} (hp : ys.Perm l) (hs : ys.Pairwise (fun s t => s.a ≤ t.a)) (h : ∀ s ∈ l, s.a < s.b) : mergeL ys = norm l := by
  obtain ⟨h1, h2⟩ := merge_ok ys [] ⟨List.Pairwise.nil, by simp⟩ (fun s hs => h s (hp.mem_iff.1 hs)) hs (by simp)
  obtain ⟨h3, h4⟩ := norm_ok h
  refine sep_unique _ _ h1 h3 fun x => ?_
  rw [h4 x, show mergeL ys = ys.foldl mstep [] from rfl, h2 x, spCov_perm hp]
  simp [spCov]
end Go.J
