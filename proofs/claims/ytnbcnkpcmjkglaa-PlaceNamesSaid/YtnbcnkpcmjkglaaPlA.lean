/- Where sizes fit, plain: runs of free places; the first place of a size. -/
import Derived.Test.YtnbcnkpcmjkglaaRows
namespace Go.Proofs.Ytnbcnkpcmjkglaa

/-- A place in a span that is taken. -/
def InS (l : List (Int × Int)) (p : Int) : Prop := ∃ s ∈ l, s.1 ≤ p ∧ p < s.2
/-- F are the runs, as long as can be, of the places of [a, b) of which P holds, in their order. -/
def Runs (P : Int → Prop) (b : Int) : Int → List (Int × Int) → Prop
  | a, [] => ∀ p, a ≤ p → p < b → ¬ P p
  | a, s :: F => a ≤ s.1 ∧ s.1 < s.2 ∧ s.2 ≤ b ∧ (∀ p, a ≤ p → p < s.1 → ¬ P p) ∧ (∀ p, s.1 ≤ p → p < s.2 → P p) ∧ (s.2 = b ∨ ¬ P s.2) ∧ Runs P b s.2 F
theorem Runs.uniq {P : Int → Prop} {b : Int} : ∀ {F G : List (Int × Int)} {a : Int}, Runs P b a F → Runs P b a G → F = G
  | [], [], _, _, _ => rfl
  | [], t :: G, a, hf, hg => by
    obtain ⟨h1, h2, h3, -, h5, -⟩ := hg
    exact absurd (h5 t.1 (Int.le_refl _) h2) (hf t.1 h1 (by omega))
  | s :: F, [], a, hf, hg => by
    obtain ⟨h1, h2, h3, -, h5, -⟩ := hf
    exact absurd (h5 s.1 (Int.le_refl _) h2) (hg s.1 h1 (by omega))
  | s :: F, t :: G, a, hf, hg => by
    obtain ⟨f1, f2, f3, f4, f5, f6, f7⟩ := hf
    obtain ⟨g1, g2, g3, g4, g5, g6, g7⟩ := hg
    have e1 : s.1 = t.1 := by
      rcases Int.lt_trichotomy s.1 t.1 with h | h | h
      · exact absurd (f5 s.1 (Int.le_refl _) f2) (g4 s.1 f1 h)
      · exact h
      · exact absurd (g5 t.1 (Int.le_refl _) g2) (f4 t.1 g1 h)
    have e2 : s.2 = t.2 := by
      rcases Int.lt_trichotomy s.2 t.2 with h | h | h
      · rcases f6 with f6 | f6
        · omega
        · exact absurd (g5 s.2 (by omega) h) f6
      · exact h
      · rcases g6 with g6 | g6
        · omega
        · exact absurd (f5 t.2 (by omega) h) g6
    have e : s = t := Prod.ext e1 e2
    subst e
    rw [Runs.uniq f7 g7]
theorem Runs.congr {P Q : Int → Prop} {b : Int} : ∀ {F : List (Int × Int)} {a : Int}, (∀ p, a ≤ p → p < b → (P p ↔ Q p)) → Runs P b a F → Runs Q b a F
  | [], a, hp, hf => fun p h1 h2 hq => hf p h1 h2 ((hp p h1 h2).2 hq)
  | s :: F, a, hp, hf => by
    obtain ⟨f1, f2, f3, f4, f5, f6, f7⟩ := hf
    refine ⟨f1, f2, f3, fun p h1 h2 hq => f4 p h1 h2 ((hp p h1 (by omega)).2 hq), fun p h1 h2 => (hp p (by omega) (by omega)).1 (f5 p h1 h2), ?_, Runs.congr (fun p h1 h2 => hp p (by omega) h2) f7⟩
    by_cases hb : s.2 = b
    · exact .inl hb
    · rcases f6 with f6 | f6
      · exact .inl f6
      · exact .inr fun hq => f6 ((hp s.2 (by omega) (by omega)).2 hq)
theorem Runs.shift {P : Int → Prop} {b a a' : Int} {F : List (Int × Int)} (ha : a ≤ a') (hn : ∀ p, a ≤ p → p < a' → p < b → ¬ P p) (h : Runs P b a' F) : Runs P b a F := by
  cases F with
  | nil =>
    intro p h1 h2
    by_cases hp : p < a'
    · exact hn p h1 hp h2
    · exact h p (by omega) h2
  | cons s F =>
    obtain ⟨f1, f2, f3, f4, f5, f6, f7⟩ := h
    refine ⟨by omega, f2, f3, fun p h1 h2 => ?_, f5, f6, f7⟩
    by_cases hp : p < a'
    · exact hn p h1 hp (by omega)
    · exact f4 p (by omega) h2
/-- What is free behind a place, the spans in their order. -/
def goF (limit : Int) : Int → List (Int × Int) → List (Int × Int)
  | a, [] => if a < limit then [(a, limit)] else []
  | a, s :: l => if a < s.1 then (a, s.1) :: goF limit (max a s.2) l else goF limit (max a s.2) l
theorem goF_runs (limit : Int) : ∀ (l : List (Int × Int)) (a : Int), l.Pairwise (fun s t => s.1 ≤ t.1) → (∀ s ∈ l, s.1 < s.2 ∧ s.1 < limit) → Runs (fun p => ¬ InS l p) limit a (goF limit a l)
  | [], a, _, _ => by
    unfold goF
    split
    · rename_i h
      exact ⟨Int.le_refl _, h, Int.le_refl _, fun p h1 h2 => by omega, (fun p _ _ ⟨s, hs, _⟩ => by cases hs), .inl rfl, fun p h1 h2 => by dsimp only at h1; omega⟩
    · intro p h1 h2; omega
  | s :: l, a, hs, hk => by
    rw [List.pairwise_cons] at hs
    obtain ⟨k1, k2⟩ := hk s (by simp)
    have ih := goF_runs limit l (max a s.2) hs.2 (fun t ht => hk t (by simp [ht]))
    have ih2 : Runs (fun p => ¬ InS (s :: l) p) limit (max a s.2) (goF limit (max a s.2) l) := by
      refine Runs.congr (fun p h1 _ => ?_) ih
      have : InS (s :: l) p ↔ InS l p := by
        constructor
        · rintro ⟨t, ht, h2, h3⟩
          rcases List.mem_cons.1 ht with rfl | ht
          · omega
          · exact ⟨t, ht, h2, h3⟩
        · rintro ⟨t, ht, h⟩
          exact ⟨t, by simp [ht], h⟩
      rw [this]
    have hin : ∀ p, s.1 ≤ p → p < s.2 → ¬ ¬ InS (s :: l) p := fun p h1 h2 hn => hn ⟨s, by simp, h1, h2⟩
    unfold goF
    split
    · rename_i h
      refine ⟨Int.le_refl _, h, by show s.1 ≤ limit; omega, fun p h1 h2 => by dsimp only at h2; omega, fun p h1 h2 => ?_, .inr (hin s.1 (Int.le_refl _) k1), ?_⟩
      · rintro ⟨t, ht, h3, h4⟩
        dsimp only at h2
        rcases List.mem_cons.1 ht with rfl | ht
        · omega
        · have := hs.1 t ht; omega
      · exact ih2.shift (by show s.1 ≤ max a s.2; omega) (fun p h1 h2 _ => hin p h1 (by dsimp only at h1; omega))
    · exact ih2.shift (by omega) (fun p h1 h2 _ => hin p (by omega) (by omega))
def keepS (limit : Int) (s : Int × Int) : Bool := !(decide (s.2 ≤ s.1) || decide (s.2 ≤ 0) || decide (limit ≤ s.1))
/-- What is free, of spans in any order: 'm' are those that count, by their beginnings. -/
theorem free_runs {l m : List (Int × Int)} {limit : Int} (hm : m.Perm (l.filter (keepS limit))) (hs : m.Pairwise (fun s t => s.1 ≤ t.1)) : Runs (fun p => ¬ InS l p) limit 0 (goF limit 0 m) := by
  have hk : ∀ s ∈ m, s.1 < s.2 ∧ s.1 < limit := by
    intro s h
    have := (List.mem_filter.1 (hm.mem_iff.1 h)).2
    unfold keepS at this
    simp only [Bool.not_eq_true', Bool.or_eq_false_iff, decide_eq_false_iff_not] at this
    omega
  refine Runs.congr (fun p h1 h2 => not_congr ?_) (goF_runs limit m 0 hs hk)
  constructor
  · rintro ⟨s, h, h3⟩
    exact ⟨s, (List.mem_filter.1 (hm.mem_iff.1 h)).1, h3⟩
  · rintro ⟨s, h, h3⟩
    refine ⟨s, hm.mem_iff.2 (List.mem_filter.2 ⟨h, ?_⟩), h3⟩
    unfold keepS
    simp only [Bool.not_eq_true', Bool.or_eq_false_iff, decide_eq_false_iff_not]
    omega
/-- One place more, as the document gathers them. -/
def stepF (b : Bool) (at_ : Int) : List (Int × Int) → List (Int × Int)
  | [] => if b then [(at_, at_ + 1)] else []
  | [s] => if b then (if s.2 = at_ then [(s.1, at_ + 1)] else [s, (at_, at_ + 1)]) else [s]
  | s :: t :: F => s :: stepF b at_ (t :: F)
theorem stepF_runs {P : Int → Prop} {b : Bool} {at_ : Int} (hb : b = true ↔ P at_) : ∀ (F : List (Int × Int)) (a : Int), a ≤ at_ → Runs P at_ a F → Runs P (at_ + 1) a (stepF b at_ F)
  | [], a, ha, h => by
    unfold stepF
    split
    · rename_i hbt
      refine ⟨ha, by show at_ < at_ + 1; omega, Int.le_refl _, fun p h1 h2 => h p h1 h2, fun p h1 h2 => ?_, .inl rfl, fun p h1 h2 => by dsimp only at h1; omega⟩
      dsimp only at h1 h2
      obtain rfl : p = at_ := by omega
      exact hb.1 hbt
    · rename_i hbf
      intro p h1 h2
      by_cases hp : p = at_
      · subst hp; exact fun hq => hbf (hb.2 hq)
      · exact h p h1 (by omega)
  | [s], a, ha, h => by
    obtain ⟨f1, f2, f3, f4, f5, f6, f7⟩ := h
    unfold stepF
    split
    · rename_i hbt
      split
      · rename_i he
        refine ⟨f1, by show s.1 < at_ + 1; omega, Int.le_refl _, f4, fun p h1 h2 => ?_, .inl rfl, fun p h1 h2 => by dsimp only at h1; omega⟩
        dsimp only at h1 h2
        by_cases hp : p = at_
        · subst hp; exact hb.1 hbt
        · exact f5 p h1 (by omega)
      · rename_i he
        refine ⟨f1, f2, by omega, f4, f5, .inr (f6.resolve_left he), by show s.2 ≤ at_; omega, by show at_ < at_ + 1; omega, Int.le_refl _, fun p h1 h2 => f7 p h1 h2, fun p h1 h2 => ?_, .inl rfl, fun p h1 h2 => by dsimp only at h1; omega⟩
        dsimp only at h1 h2
        obtain rfl : p = at_ := by omega
        exact hb.1 hbt
    · rename_i hbf
      refine ⟨f1, f2, by omega, f4, f5, ?_, fun p h1 h2 => ?_⟩
      · rcases f6 with f6 | f6
        · exact .inr fun hq => hbf (hb.2 (by rw [← f6]; exact hq))
        · exact .inr f6
      · by_cases hp : p = at_
        · subst hp; exact fun hq => hbf (hb.2 hq)
        · exact f7 p h1 (by omega)
  | s :: t :: F, a, ha, h => by
    obtain ⟨f1, f2, f3, f4, f5, f6, f7⟩ := h
    have g := f7
    obtain ⟨g1, g2, g3, -⟩ := g
    exact ⟨f1, f2, by omega, f4, f5, .inr (f6.resolve_left (by omega)), stepF_runs hb (t :: F) s.2 (by omega) f7⟩
/-- A size lies in free places from q on. -/
def GoodAt (P : Int → Prop) (size limit q : Int) : Prop := 0 ≤ q ∧ q + size ≤ limit ∧ ∀ p, q ≤ p → p < q + size → P p
def upI (n to : Int) : Int := (n + to - 1) / to * to
theorem upI_mul (n : Int) {to : Int} (h : 1 ≤ to) : n ≤ upI n to ∧ ∀ k : Int, n ≤ k * to → upI n to ≤ k * to := by
  unfold upI
  have h1 := Int.emod_nonneg (n + to - 1) (show to ≠ 0 by omega)
  have h2 := Int.emod_lt_of_pos (n + to - 1) (show 0 < to by omega)
  have h3 := Int.mul_ediv_add_emod (n + to - 1) to
  have h4 : to * ((n + to - 1) / to) = (n + to - 1) / to * to := Int.mul_comm _ _
  refine ⟨by omega, fun k hk => ?_⟩
  have h5 : (n + to - 1) / to < k + 1 := by
    refine Int.ediv_lt_of_lt_mul (by omega) ?_
    rw [Int.add_mul]
    omega
  exact Int.mul_le_mul_of_nonneg_right (by omega) (by omega)
/-- The first of the free spans in which a size fits. -/
def findF (size align : Int) : List (Int × Int) → Option Int
  | [] => none
  | s :: F => if upI s.1 align + size ≤ s.2 then some (upI s.1 align) else findF size align F
theorem Runs.mem_bd {P : Int → Prop} {b : Int} : ∀ {F : List (Int × Int)} {a : Int}, Runs P b a F → ∀ s ∈ F, a ≤ s.1 ∧ s.1 < s.2 ∧ s.2 ≤ b ∧ (∀ p, s.1 ≤ p → p < s.2 → P p)
  | [], _, _, s, h => by cases h
  | t :: F, a, hf, s, h => by
    obtain ⟨f1, f2, f3, f4, f5, f6, f7⟩ := hf
    rcases List.mem_cons.1 h with rfl | h
    · exact ⟨f1, f2, f3, f5⟩
    · obtain ⟨g1, g2, g3, g4⟩ := Runs.mem_bd f7 s h
      exact ⟨by omega, g2, g3, g4⟩
/-- Free places in a row lie in one run. -/
theorem Runs.covers {P : Int → Prop} {b size q : Int} (hs : 1 ≤ size) (hq : q + size ≤ b) (hp : ∀ p, q ≤ p → p < q + size → P p) : ∀ {F : List (Int × Int)} {a : Int}, a ≤ q → Runs P b a F → ∃ s ∈ F, s.1 ≤ q ∧ q + size ≤ s.2
  | [], a, ha, hf => absurd (hp q (Int.le_refl _) (by omega)) (hf q ha (by omega))
  | t :: F, a, ha, hf => by
    obtain ⟨f1, f2, f3, f4, f5, f6, f7⟩ := hf
    by_cases h1 : q < t.1
    · exact absurd (hp q (Int.le_refl _) (by omega)) (f4 q ha h1)
    · by_cases h2 : q < t.2
      · refine ⟨t, by simp, by omega, ?_⟩
        rcases f6 with f6 | f6
        · omega
        · refine Int.not_lt.1 fun h3 => f6 (hp t.2 (by omega) h3)
      · obtain ⟨s, hs', h⟩ := Runs.covers hs hq hp (by omega) f7
        exact ⟨s, by simp [hs'], h⟩
theorem findF_some {P : Int → Prop} {b size align : Int} (hs : 1 ≤ size) (hal : 1 ≤ align) : ∀ {F : List (Int × Int)} {a r : Int}, 0 ≤ a → Runs P b a F → findF size align F = some r → (∃ k : Int, r = k * align) ∧ a ≤ r ∧ GoodAt P size b r ∧ ∀ k : Int, a ≤ k * align → GoodAt P size b (k * align) → r ≤ k * align
  | [], _, _, _, _, h => by cases h
  | s :: F, a, r, ha, hf, h => by
    have hf' := hf
    obtain ⟨f1, f2, f3, f4, f5, f6, f7⟩ := hf
    unfold findF at h
    have hu := upI_mul s.1 hal
    split at h
    · rename_i hfit
      injection h with h
      subst h
      refine ⟨⟨_, rfl⟩, by omega, ⟨by omega, by omega, fun p h1 h2 => f5 p (by omega) (by omega)⟩, fun k hk hg => ?_⟩
      by_cases h1 : k * align < s.1
      · exact absurd (hg.2.2 (k * align) (Int.le_refl _) (by omega)) (f4 _ hk h1)
      · exact hu.2 k (by omega)
    · rename_i hfit
      obtain ⟨g1, g2, g3, g4⟩ := findF_some hs hal (by omega) f7 h
      refine ⟨g1, by omega, g3, fun k hk hg => ?_⟩
      by_cases h1 : s.2 ≤ k * align
      · exact g4 k h1 hg
      · exfalso
        by_cases h2 : k * align < s.1
        · exact absurd (hg.2.2 (k * align) (Int.le_refl _) (by omega)) (f4 _ hk h2)
        · have := hu.2 k (by omega)
          have h3 : s.2 < k * align + size := by omega
          rcases f6 with f6 | f6
          · have := hg.2.1; omega
          · exact f6 (hg.2.2 s.2 (by omega) h3)
theorem findF_none {P : Int → Prop} {b size align : Int} (hs : 1 ≤ size) (hal : 1 ≤ align) {F : List (Int × Int)} {a : Int} (hf : Runs P b a F) (h : findF size align F = none) (k : Int) (hk : a ≤ k * align) : ¬ GoodAt P size b (k * align) := by
  intro hg
  obtain ⟨s, hm, h1, h2⟩ := Runs.covers hs hg.2.1 hg.2.2 hk hf
  have hu := (upI_mul s.1 hal).2 k h1
  clear hf
  induction F with
  | nil => cases hm
  | cons t F ih =>
    unfold findF at h
    split at h
    · cases h
    · rename_i hn
      rcases List.mem_cons.1 hm with rfl | hm
      · omega
      · exact ih h hm
/-- What a first place is, of the document's and of the code's. -/
def IsFirst (P : Int → Prop) (size align limit : Int) (r : Int × Bool) : Prop :=
  (r.2 = true ∧ (∃ k : Int, 0 ≤ k ∧ r.1 = k * align) ∧ GoodAt P size limit r.1 ∧ ∀ k : Int, 0 ≤ k → GoodAt P size limit (k * align) → r.1 ≤ k * align) ∨ (r = (-1, false) ∧ ∀ k : Int, 0 ≤ k → ¬ GoodAt P size limit (k * align))
theorem IsFirst.uniq {P : Int → Prop} {size align limit : Int} {r s : Int × Bool} (h : IsFirst P size align limit r) (g : IsFirst P size align limit s) : r = s := by
  rcases h with ⟨h1, ⟨k, hk, h2⟩, h3, h4⟩ | ⟨rfl, h⟩ <;> rcases g with ⟨g1, ⟨j, hj, g2⟩, g3, g4⟩ | ⟨rfl, g⟩
  · have a1 := h4 j hj (by rw [← g2]; exact g3)
    have a2 := g4 k hk (by rw [← h2]; exact h3)
    exact Prod.ext (by omega) (by rw [h1, g1])
  · exact absurd (by rw [← h2]; exact h3) (g k hk)
  · exact absurd (by rw [← g2]; exact g3) (h j hj)
  · rfl
theorem mul_nonneg_iff {k a : Int} (ha : 1 ≤ a) (h : 0 ≤ k * a) : 0 ≤ k := by
  refine Int.not_lt.1 fun hk => ?_
  have := Int.mul_le_mul_of_nonneg_right (show k ≤ -1 by omega) (show 0 ≤ a by omega)
  omega
/-- The code's first place is one. -/
theorem findF_first {P : Int → Prop} {limit size align : Int} (hs : 1 ≤ size) (hal : 1 ≤ align) {F : List (Int × Int)} (hf : Runs P limit 0 F) :
    IsFirst P size align limit (match findF size align F with | some r => (r, true) | none => (-1, false)) := by
  cases h : findF size align F with
  | none => exact .inr ⟨rfl, fun k hk => findF_none hs hal hf h k (Int.mul_nonneg hk (by omega))⟩
  | some r =>
    obtain ⟨⟨k, hk⟩, h1, h2, h3⟩ := findF_some hs hal (Int.le_refl _) hf h
    exact .inl ⟨rfl, ⟨k, mul_nonneg_iff hal (by omega), hk⟩, h2, fun j hj hg => h3 j (Int.mul_nonneg hj (by omega)) hg⟩
theorem first_zero {P : Int → Prop} {limit align : Int} (hl : 0 ≤ limit) : IsFirst P 0 align limit (0, true) :=
  .inl ⟨rfl, ⟨0, Int.le_refl _, by simp⟩, ⟨Int.le_refl _, by simpa using hl, fun p h1 h2 => by omega⟩, fun k _ hg => hg.1⟩
end Go.Proofs.Ytnbcnkpcmjkglaa
