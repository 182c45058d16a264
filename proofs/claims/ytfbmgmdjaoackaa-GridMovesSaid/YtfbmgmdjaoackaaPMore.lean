/-
  Lemmas for the statements of this seat; no statement is proved here. No condition.
-/
import Derived.Test.YtfbmgmdjaoackaaPReg
import Derived.Test.YtfbmgmdjaoackaaPTight
namespace Go.J
set_option linter.unusedSimpArgs false
set_option linter.unusedVariables false
/-! plain: unions, meets, differences and growing, by cells -/
theorem bothN_cov {W H : Int} (hH : H ≤ 256) : ∀ (n : Nat) (T : Tab) (a b : List Run), T.length = 256 → Canon W H a → Canon W H b → a.length + b.length ≤ n → ∀ (Y : Nat) (x : Int),
    tabCov (bothN W H n T a b) Y x ↔ tabCov T Y x ∨ ∃ r ∈ a, ∃ s ∈ b, (r.Y = Y ∧ s.Y = Y) ∧ (r.From ≤ x ∧ x < r.To) ∧ s.From ≤ x ∧ x < s.To := by
  intro n
  induction n with
  | zero =>
    intro T a b _ _ _ hn Y x
    have : a = [] := List.eq_nil_of_length_eq_zero (by omega)
    subst this
    cases b <;> simp [bothN]
  | succ n ih =>
    intro T a b hT ha hb hn Y X
    cases a with
    | nil => cases b <;> simp [bothN]
    | cons x a =>
      cases b with
      | nil => simp [bothN]
      | cons y b =>
        have hx := ha.rng x (by simp)
        have hy := hb.rng y (by simp)
        have ha' : Canon W H a := ⟨fun r hr => ha.rng r (List.mem_cons_of_mem _ hr), (List.pairwise_cons.1 ha.ord).2⟩
        have hb' : Canon W H b := ⟨fun r hr => hb.rng r (List.mem_cons_of_mem _ hr), (List.pairwise_cons.1 hb.ord).2⟩
        have hax := (List.pairwise_cons.1 ha.ord).1
        have hby := (List.pairwise_cons.1 hb.ord).1
        rw [bothN]
        obtain ⟨T', hT'⟩ : ∃ T', T' = if x.Y = y.Y then T.add W H x.Y (max x.From y.From) (min x.To y.To) else T := ⟨_, rfl⟩
        rw [← hT']
        have hl : T'.length = 256 := by rw [hT']; split <;> simp [Tab.add_len, hT]
        have hcov : tabCov T' Y X ↔ tabCov T Y X ∨ ((x.Y = Y ∧ y.Y = Y) ∧ (x.From ≤ X ∧ X < x.To) ∧ y.From ≤ X ∧ X < y.To) := by
          rw [hT']
          split
          · rw [add_cov hT hH]
            constructor
            · rintro (h | h)
              · exact .inl h
              · exact .inr (by omega)
            · rintro (h | h)
              · exact .inl h
              · exact .inr (by omega)
          · constructor
            · exact .inl
            · rintro (h | h)
              · exact h
              · exfalso; omega
        simp only [List.length_cons] at hn
        split
        · rename_i hc
          rw [ih T' a (y :: b) hl ha' hb (by simp only [List.length_cons]; omega) Y X, hcov]
          constructor
          · rintro ((h | h) | ⟨r, hr, s, hs, h⟩)
            · exact .inl h
            · exact .inr ⟨x, by simp, y, by simp, h⟩
            · exact .inr ⟨r, List.mem_cons_of_mem _ hr, s, hs, h⟩
          · rintro (h | ⟨r, hr, s, hs, h⟩)
            · exact .inl (.inl h)
            · cases hr with
              | head =>
                cases hs with
                | head => exact .inl (.inr h)
                | tail _ hs => have := hby s hs; exfalso; omega
              | tail _ hr => exact .inr ⟨r, hr, s, hs, h⟩
        · rename_i hc
          rw [ih T' (x :: a) b hl ha hb' (by simp only [List.length_cons]; omega) Y X, hcov]
          constructor
          · rintro ((h | h) | ⟨r, hr, s, hs, h⟩)
            · exact .inl h
            · exact .inr ⟨x, by simp, y, by simp, h⟩
            · exact .inr ⟨r, hr, s, List.mem_cons_of_mem _ hs, h⟩
          · rintro (h | ⟨r, hr, s, hs, h⟩)
            · exact .inl (.inl h)
            · cases hs with
              | head =>
                cases hr with
                | head => exact .inl (.inr h)
                | tail _ hr => have := hax r hr; exfalso; omega
              | tail _ hs => exact .inr ⟨r, hr, s, hs, h⟩
theorem bothN_low {W H : Int} : ∀ (n : Nat) (T : Tab) (a b : List Run), Tab.low H T → Tab.low H (bothN W H n T a b) := by
  intro n
  induction n with
  | zero => intro T a b h; cases a <;> cases b <;> exact h
  | succ n ih =>
    intro T a b h
    cases a with
    | nil => exact h
    | cons x a => cases b with
      | nil => exact h
      | cons y b =>
        rw [bothN]
        have h' : Tab.low H (if x.Y = y.Y then T.add W H x.Y (max x.From y.From) (min x.To y.To) else T) := by
          split
          · exact h.add _ _ _ _
          · exact h
        split <;> exact ih _ _ _ h'
/-- a cell of the grid -/
def inG (g : Grid) (c : Cell) : Prop := (0 ≤ c.X ∧ c.X < g.W) ∧ 0 ≤ c.Y ∧ c.Y < g.H
theorem canon_inG {g : Grid} {rs : List Run} (h : Canon g.W g.H rs) {c : Cell} (hc : hasB rs c = true) : inG g c := by
  obtain ⟨r, hr, h1, h2, h3⟩ := hasB_iff.1 hc
  have := h.rng r hr
  unfold inG
  omega
theorem both_has {g : Grid} (hg : g.ok = true) {a b : List Run} (ha : Canon g.W g.H a) (hb : Canon g.W g.H b) (c : Cell) : hasB (regR (bothT g.W g.H tab0 a b)) c = true ↔ hasB a c = true ∧ hasB b c = true := by
  obtain ⟨hW, hH, _, _⟩ := Grid.ok_b hg
  rw [regR_has (bothT_good g a b)]
  unfold bothT
  rw [hasB_iff, hasB_iff]
  constructor
  · rintro ⟨h1, h2, h3⟩
    rcases (bothN_cov hH.2 _ tab0 a b (tab0_good g.W).len ha hb (Nat.le_refl _) _ _).1 h3 with h | ⟨r, hr, s, hs, h⟩
    · exact absurd h (tabCov0 _ _)
    · exact ⟨⟨r, hr, by omega, h.2.1.1, h.2.1.2⟩, s, hs, by omega, h.2.2.1, h.2.2.2⟩
  · rintro ⟨⟨r, hr, h1, h2, h3⟩, s, hs, h4, h5, h6⟩
    have h7 := ha.rng r hr
    refine ⟨by omega, by omega, (bothN_cov hH.2 _ tab0 a b (tab0_good g.W).len ha hb (Nat.le_refl _) _ _).2 (.inr ⟨r, hr, s, hs, ⟨by omega, by omega⟩, ⟨h2, h3⟩, h5, h6⟩)⟩
theorem growRow_low {W H a b lo : Int} {T : Tab} (h : Tab.low H T) : ∀ n, Tab.low H (growRow W H a b lo T n) := by
  intro n
  induction n with
  | zero => exact h
  | succ n ih => rw [growRow_succ]; exact ih.add _ _ _ _
theorem growT_low (g : Grid) (l : Lead) : ∀ (rs : List Run) (T : Tab), Tab.low g.H T → Tab.low g.H (rs.foldl (grow1 g l) T) := by
  intro rs
  induction rs with
  | nil => intro T h; exact h
  | cons r rs ih => intro T h; exact ih _ (growRow_low h _)
theorem growT_all {g : Grid} (hH : 1 ≤ g.H ∧ g.H ≤ 256) (l : Lead) (rs : List Run) : Tab.good g.W (rs.length * 256) (growT g l rs) := by
  have := growT_good hH l rs rs.length (Nat.le_refl _)
  rwa [List.take_length] at this
/-- a cell to which a cell grows -/
def rectC (l : Lead) (d c : Cell) : Prop := (d.Y + l.s ≤ c.Y ∧ c.Y ≤ d.Y + l.n) ∧ d.X + l.w ≤ c.X ∧ c.X ≤ d.X + l.e
theorem grow_has {g : Grid} (hH : 1 ≤ g.H ∧ g.H ≤ 256) {l : Lead} (hl : l.w ≤ l.e) {rs : List Run} (hr : ∀ r ∈ rs, r.From < r.To) (c : Cell) : hasB (regR (growT g l rs)) c = true ↔ inG g c ∧ ∃ d, hasB rs d = true ∧ rectC l d c := by
  rw [growT_has hH]
  unfold inGrow inG rectC
  constructor
  · rintro ⟨r, h1, h2, h3, h4, h5, h6⟩
    have h7 := hr r h1
    refine ⟨⟨h3, by omega⟩, ⟨max r.From (c.X - l.e), r.Y⟩, hasB_iff.2 ⟨r, h1, rfl, by simp only; omega, by simp only; omega⟩, by simp only; omega, by simp only; omega⟩
  · rintro ⟨⟨h1, h2⟩, d, h3, h4, h5⟩
    obtain ⟨r, hr, h6, h7, h8⟩ := hasB_iff.1 h3
    exact ⟨r, hr, by omega, h1, by omega, by omega, by omega⟩
theorem lead_wide {S low high : Int} (hS : 1 ≤ S) (h : low ≤ high) : low / S ≤ (S - 1 + high) / S := Int.ediv_le_ediv (by omega) (by omega)
theorem leadOf_wide {g : Grid} {p : Push} (hS : 1 ≤ g.S) (hp : p.ok = true) : (leadOf g p).w ≤ (leadOf g p).e ∧ (leadOf g p).s ≤ (leadOf g p).n := by
  unfold Push.ok at hp
  simp only [Bool.and_eq_true, decide_eq_true_eq] at hp
  exact ⟨lead_wide hS hp.1.1.2, lead_wide hS hp.1.2.2⟩
theorem canon_of_right {W H : Int} {rs : List Run} (h : rightB W H rs = true) : Canon W H rs := (right_iff.1 h).1
/-- growing, on a small grid -/
theorem growR_small {g : Grid} (hs : g.ok = true → g.W * g.H ≤ 4096) (r : List Run) (p : Push) : growR g r p = ([], false, 2) ∨
    (checkedB g [r] = true ∧ p.ok = true ∧ growR g r p = (regR (growT g (leadOf g p) r), r.any (offB g (leadOf g p)), 0) ∧ rightB g.W g.H (regR (growT g (leadOf g p) r)) = true) := by
  unfold growR
  cases h1 : checkedB g [r] with
  | false => left; simp
  | true => cases h2 : p.ok with
    | false => left; simp
    | true =>
      right
      obtain ⟨h3, _⟩ := checkedB_b h1
      obtain ⟨hW, hH, hS, _⟩ := Grid.ok_b h3
      obtain ⟨h4, _, h5⟩ := regRes_fits (growT_all hH (leadOf g p) r) (growT_low g (leadOf g p) r tab0 (tab0_low _)) hW.1 hH.1 (hs h3)
      refine ⟨rfl, rfl, ?_, h5⟩
      rw [h4]
      simp
def bothR (g : Grid) (a b : List Run) : List Run × Int := if checkedB g [a, b] then regRes (bothT g.W g.H tab0 a b) else ([], 2)
theorem bothR_small {g : Grid} (hs : g.ok = true → g.W * g.H ≤ 4096) (a b : List Run) : bothR g a b = ([], 2) ∨
    (checkedB g [a, b] = true ∧ bothR g a b = (regR (bothT g.W g.H tab0 a b), 0) ∧ rightB g.W g.H (regR (bothT g.W g.H tab0 a b)) = true) := by
  unfold bothR
  cases h1 : checkedB g [a, b] with
  | false => left; simp
  | true =>
    right
    obtain ⟨h3, _⟩ := checkedB_b h1
    obtain ⟨hW, hH, hS, _⟩ := Grid.ok_b h3
    obtain ⟨h4, _, h5⟩ := regRes_fits (bothT_good g a b) (bothN_low _ tab0 a b (tab0_low _)) hW.1 hH.1 (hs h3)
    exact ⟨rfl, by rw [if_pos rfl, h4], h5⟩
def partB (a b : List Run) : Bool := a.all fun r => (List.range (r.To - r.From).toNat).all fun k => hasB b ⟨r.From + k, r.Y⟩
theorem partB_of {a b : List Run} (h : ∀ c, hasB a c = true → hasB b c = true) : partB a b = true := by
  unfold partB
  rw [List.all_eq_true]
  intro r hr
  rw [List.all_eq_true]
  intro k hk
  rw [List.mem_range] at hk
  exact h _ (hasB_iff.2 ⟨r, hr, rfl, by simp only; omega, by simp only; omega⟩)
def Push.wide (p q : Push) : Push := ⟨⟨min p.Low.X q.Low.X, min p.Low.Y q.Low.Y⟩, ⟨max p.High.X q.High.X, max p.High.Y q.High.Y⟩⟩
def Push.sum (p q : Push) : Push := ⟨⟨w64 (p.Low.X + q.Low.X), w64 (p.Low.Y + q.Low.Y)⟩, ⟨w64 (p.High.X + q.High.X), w64 (p.High.Y + q.High.Y)⟩⟩
/-- the statement, in plain words -/
theorem more_law {g : Grid} (hs : g.ok = true → g.W * g.H ≤ 4096) (a b : List Run) (p q : Push) :
    ((bothR g a b).2 = 0 ∧ (growR g a p).2.2 = 0 ∧ (growR g (bothR g a b).1 p).2.2 = 0 ∧ partB (growR g (bothR g a b).1 p).1 (growR g a p).1 = true ∧
      ((growR g a (p.wide q)).2.2 = 0 → partB (growR g a p).1 (growR g a (p.wide q)).1 = true) ∧
      ((growR g a p).2.1 = true ∨ (growR g (growR g a p).1 q).2.2 ≠ 0 ∨ (growR g a (p.sum q)).2.2 ≠ 0 ∨ partB (growR g a (p.sum q)).1 (growR g (growR g a p).1 q).1 = true)) ∨
    (¬((bothR g a b).2 = 0 ∧ (growR g a p).2.2 = 0 ∧ (growR g (bothR g a b).1 p).2.2 = 0) ∧ ((bothR g a b).2 = 2 ∨ (growR g a p).2.2 = 2)) := by
  rcases bothR_small hs a b with h1 | ⟨hc, h1, hr1⟩
  · right; rw [h1]; exact ⟨by simp, .inl rfl⟩
  rcases growR_small hs a p with h2 | ⟨hc2, hp, h2, hr2⟩
  · right; rw [h2]; exact ⟨by simp, .inr rfl⟩
  left
  obtain ⟨hgok, hall⟩ := checkedB_b hc
  obtain ⟨hW, hH, hS, _⟩ := Grid.ok_b hgok
  have hca := canon_of_right (hall a (by simp))
  have hcb := canon_of_right (hall b (by simp))
  have hcc : checkedB g [(bothR g a b).1] = true := by
    unfold checkedB
    rw [hgok, h1]
    simpa using hr1
  rcases growR_small hs (bothR g a b).1 p with h3 | ⟨_, _, h3, hr3⟩
  · exfalso
    unfold growR at h3
    rw [hcc, hp] at h3
    simp only [Bool.and_self, if_true] at h3
    split at h3
    · have := congrArg (·.2.2) h3; simp at this
    · rename_i hne
      have h4 := regRes_fits (growT_all hH (leadOf g p) (bothR g a b).1) (growT_low g (leadOf g p) (bothR g a b).1 tab0 (tab0_low _)) hW.1 hH.1 (hs hgok)
      rw [h4.1] at hne
      exact hne rfl
  have hlp := leadOf_wide hS.1 hp
  have hcx := canon_of_right hr2
  have fx := grow_has (g := g) hH hlp.1 (rs := a) fun r hr => by have := hca.rng r hr; omega
  have hcboth := canon_of_right hr1
  have fy := grow_has (g := g) hH hlp.1 (rs := (bothR g a b).1) fun r hr => by rw [h1] at hr; have := hcboth.rng r hr; omega
  refine ⟨by rw [h1], by rw [h2], by rw [h3], ?_, fun hz => ?_, ?_⟩
  · rw [h3, h2]
    refine partB_of fun c hc' => ?_
    obtain ⟨h4, d, h5, h6⟩ := (fy c).1 hc'
    rw [h1] at h5
    exact (fx c).2 ⟨h4, d, ((both_has hgok hca hcb d).1 h5).1, h6⟩
  · rcases growR_small hs a (p.wide q) with h4 | ⟨_, hp4, h4, _⟩
    · rw [h4] at hz; cases hz
    · rw [h4, h2]
      have hlw := leadOf_wide (g := g) hS.1 hp4
      refine partB_of fun c hc' => ?_
      obtain ⟨h5, d, h6, h7⟩ := (fx c).1 hc'
      refine (grow_has (g := g) hH hlw.1 (fun r hr => by have := hca.rng r hr; omega) c).2 ⟨h5, d, h6, ?_⟩
      have e1 : (p.wide q).Low.X / g.S ≤ p.Low.X / g.S := Int.ediv_le_ediv (by omega) (by simp only [Push.wide]; omega)
      have e2 : (p.wide q).Low.Y / g.S ≤ p.Low.Y / g.S := Int.ediv_le_ediv (by omega) (by simp only [Push.wide]; omega)
      have e3 : (g.S - 1 + p.High.X) / g.S ≤ (g.S - 1 + (p.wide q).High.X) / g.S := Int.ediv_le_ediv (by omega) (by simp only [Push.wide]; omega)
      have e4 : (g.S - 1 + p.High.Y) / g.S ≤ (g.S - 1 + (p.wide q).High.Y) / g.S := Int.ediv_le_ediv (by omega) (by simp only [Push.wide]; omega)
      unfold rectC at h7 ⊢
      simp only [leadOf] at h7 ⊢
      omega
  · cases hoff : (growR g a p).2.1 with
    | true => exact .inl rfl
    | false =>
      right
      rcases growR_small hs (growR g a p).1 q with h4 | ⟨_, hq, h4, _⟩
      · left; rw [h4]; decide
      right
      rcases growR_small hs a (p.sum q) with h5 | ⟨_, hpq, h5, _⟩
      · left; rw [h5]; decide
      right
      have hlq := leadOf_wide (g := g) hS.1 hq
      have hls := leadOf_wide (g := g) hS.1 hpq
      rw [h5, h4]
      have pb : (-16777216 ≤ p.Low.X ∧ p.Low.X ≤ p.High.X) ∧ (-16777216 ≤ p.Low.Y ∧ p.Low.Y ≤ p.High.Y) ∧ max p.High.X p.High.Y ≤ 16777216 := by
        unfold Push.ok at hp; simpa [and_assoc] using hp
      have qb : (-16777216 ≤ q.Low.X ∧ q.Low.X ≤ q.High.X) ∧ (-16777216 ≤ q.Low.Y ∧ q.Low.Y ≤ q.High.Y) ∧ max q.High.X q.High.Y ≤ 16777216 := by
        unfold Push.ok at hq; simpa [and_assoc] using hq
      have hsum : p.sum q = ⟨⟨p.Low.X + q.Low.X, p.Low.Y + q.Low.Y⟩, ⟨p.High.X + q.High.X, p.High.Y + q.High.Y⟩⟩ := by
        unfold Push.sum
        rw [w64_id, w64_id, w64_id, w64_id] <;> unfold In64 <;> omega
      have key : ∀ {S x y : Int}, 1 ≤ S → x / S + y / S ≤ (x + y) / S := fun {S x y} hS => by
        have h1 := Int.emod_add_mul_ediv x S
        have h2 := Int.emod_add_mul_ediv y S
        have h3 := Int.emod_nonneg x (show S ≠ 0 by omega)
        have h4 := Int.emod_nonneg y (show S ≠ 0 by omega)
        rw [Int.le_ediv_iff_mul_le (by omega), Int.add_mul, Int.mul_comm (x / S), Int.mul_comm (y / S)]
        omega
      have key2 : ∀ {S x y : Int}, 1 ≤ S → (S - 1 + (x + y)) / S ≤ (S - 1 + x) / S + (S - 1 + y) / S := fun {S x y} hS => by
        have h1 := Int.emod_add_mul_ediv (S - 1 + x) S
        have h2 := Int.emod_add_mul_ediv (S - 1 + y) S
        have h3 := Int.emod_lt_of_pos (S - 1 + x) (show 0 < S by omega)
        have h4 := Int.emod_lt_of_pos (S - 1 + y) (show 0 < S by omega)
        have h5 : (S - 1 + (x + y)) / S < (S - 1 + x) / S + (S - 1 + y) / S + 1 := by
          rw [Int.ediv_lt_iff_lt_mul (by omega), Int.add_mul, Int.add_mul, Int.mul_comm ((S - 1 + x) / S), Int.mul_comm ((S - 1 + y) / S)]
          omega
        omega
      have k1 := key (S := g.S) (x := p.Low.X) (y := q.Low.X) hS.1
      have k2 := key (S := g.S) (x := p.Low.Y) (y := q.Low.Y) hS.1
      have k3 := key2 (S := g.S) (x := p.High.X) (y := q.High.X) hS.1
      have k4 := key2 (S := g.S) (x := p.High.Y) (y := q.High.Y) hS.1
      rw [h2] at hoff
      simp only [List.any_eq_false] at hoff
      refine partB_of fun c hc' => ?_
      obtain ⟨h6, d, h7, h8⟩ := (grow_has (g := g) hH hls.1 (rs := a) (fun r hr => by have := hca.rng r hr; omega) c).1 hc'
      refine (grow_has (g := g) hH hlq.1 (fun r hr => by rw [h2] at hr; have := hcx.rng r hr; omega) c).2 ⟨h6, ?_⟩
      rw [hsum] at h8
      unfold rectC at h8
      simp only [leadOf] at h8
      obtain ⟨r, hr, h9, h10, h11⟩ := hasB_iff.1 h7
      have ho : offB g (leadOf g p) r = false := by simpa using hoff r hr
      unfold offB at ho
      simp only [leadOf, Bool.or_eq_false_iff] at ho
      have o1 := of_decide_eq_false ho.1.1.1
      have o2 := of_decide_eq_false ho.1.1.2
      have o3 := of_decide_eq_false ho.1.2
      have o4 := of_decide_eq_false ho.2
      simp only [leadOf] at hlp hlq
      refine ⟨⟨max (d.X + p.Low.X / g.S) (c.X - (g.S - 1 + q.High.X) / g.S), max (d.Y + p.Low.Y / g.S) (c.Y - (g.S - 1 + q.High.Y) / g.S)⟩, ?_, ?_⟩
      · rw [h2]
        refine (fx _).2 ⟨?_, d, h7, ?_⟩
        · unfold inG; simp only; omega
        · unfold rectC; simp only [leadOf]; omega
      · unfold rectC; simp only [leadOf]; omega
end Go.J
