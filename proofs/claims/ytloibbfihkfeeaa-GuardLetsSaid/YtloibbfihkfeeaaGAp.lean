/- The plain law of GuardApart: what is let through lies apart, and is its node's. -/
import Derived.Test.YtloibbfihkfeeaaGG
namespace Go.Proofs.Ytloibbfihkfeeaa
set_option linter.unusedVariables false
set_option linter.unusedSimpArgs false
open Go.RowKit Go.Shelf Go.Proofs.YtloibbfihkfeeaaW.PrintWords

theorem psd_any {l : List Sh} {out : List Int} {p : Sh → Bool} : ∀ k, k ≤ l.length → k ≤ out.length → ((psd l out k).any p = true ↔ ∃ m, m < k ∧ ∃ x, l[m]? = some x ∧ out[m]? = some 0 ∧ p x = true)
  | 0, _, _ => by simp [psd]
  | k + 1, h1, h2 => by
    have ih := psd_any (l := l) (out := out) (p := p) k (by omega) (by omega)
    obtain ⟨x, hx⟩ : ∃ x, l[k]? = some x := ⟨_, List.getElem?_eq_getElem (by omega)⟩
    obtain ⟨v, hv⟩ : ∃ v, out[k]? = some v := ⟨_, List.getElem?_eq_getElem (by omega)⟩
    by_cases h0 : v = 0
    · subst h0
      rw [psd_hit hx hv rfl, List.any_append, Bool.or_eq_true, ih]
      constructor
      · rintro (⟨m, hm, r⟩ | h)
        · exact ⟨m, by omega, r⟩
        · exact ⟨k, by omega, x, hx, hv, by simpa using h⟩
      · rintro ⟨m, hm, y, hy, ho, hp⟩
        by_cases hmk : m = k
        · subst hmk
          rw [hx] at hy
          cases hy
          exact .inr (by simpa using hp)
        · exact .inl ⟨m, by omega, y, hy, ho, hp⟩
    · rw [psd_miss hv h0, ih]
      constructor
      · rintro ⟨m, hm, r⟩
        exact ⟨m, by omega, r⟩
      · rintro ⟨m, hm, y, hy, ho, hp⟩
        refine ⟨m, ?_, y, hy, ho, hp⟩
        by_cases hmk : m = k
        · subst hmk
          rw [hv] at ho
          cases ho
          exact absurd rfl h0
        · omega
theorem thr_pre (C : S28) (length offset : Int) (l : List Sh) (k : Nat) : ∀ n, k ≤ n → thr C length offset l k <+: thr C length offset l n := by
  intro n hn
  induction n with
  | zero => rw [show k = 0 by omega]; exact List.prefix_refl _
  | succ n ih =>
    by_cases h : k = n + 1
    · subst h; exact List.prefix_refl _
    · exact (ih (by omega)).trans (List.prefix_append _ _)
theorem thr_get {C : S28} {length offset : Int} {l : List Sh} {k m : Nat} (n : Nat) (hk : k ≤ n) (hm : m < k) : (thr C length offset l n)[m]? = (thr C length offset l k)[m]? := by
  obtain ⟨r, hr⟩ := thr_pre C length offset l k n hk
  rw [← hr, List.getElem?_append_left (by rw [thr_len]; exact hm)]
/-- What has been said of shot i. -/
theorem thr_said {C : S28} {length offset : Int} {l : List Sh} {i n : Nat} {x : Sh} (hi : i < n) (hx : l[i]? = some x) : (thr C length offset l n)[i]? = some (stepV C length offset l (thr C length offset l i) x) := by
  rw [thr_get n (k := i + 1) (by omega) (by omega), thr_at hx, List.getElem?_append_right (by rw [thr_len]; exact Nat.le_refl _), thr_len]
  simp
/-- Does one of the shots ahead of shot i, of those let through, meet it? -/
def metP (l : List Sh) (out : List Int) (i : Nat) (x : Sh) : Prop := ∃ m, m < i ∧ ∃ y, l[m]? = some y ∧ out[m]? = some 0 ∧ y.f1 < x.f2 ∧ x.f1 < y.f2 ∧ y.f1 < y.f2 ∧ x.f1 < x.f2
theorem clsh_iff (x y : Sh) : clsh x y = true ↔ y.f1 < x.f2 ∧ x.f1 < y.f2 ∧ y.f1 < y.f2 ∧ x.f1 < x.f2 := by
  unfold clsh mxi mni
  rw [decide_eq_true_eq]
  constructor
  · intro h
    split at h <;> split at h <;> omega
  · intro h
    split <;> split <;> omega
def mineP (C : S28) (length offset : Int) (x : Sh) : Prop := 0 ≤ liesW length offset x ∧ ownerW C (liesW length offset x) = x.f0
theorem mine_iff (C : S28) (length offset : Int) (x : Sh) : mineP C length offset x ↔ verdictW C length offset x = 0 := by
  unfold mineP verdictW
  by_cases h1 : x.f2 ≤ x.f1
  · have : liesW length offset x = -1 := by unfold liesW; rw [if_pos (.inl h1)]
    rw [if_pos h1, this]
    omega
  rw [if_neg h1]
  by_cases h2 : liesW length offset x < 0
  · rw [if_pos h2]; omega
  rw [if_neg h2]
  by_cases h3 : ownerW C (liesW length offset x) = x.f0
  · rw [if_pos h3]; simp [h3]; omega
  · rw [if_neg h3]; simp [h3]
theorem verdict_some (C : S28) (length offset : Int) (x : Sh) : verdictW C length offset x = 0 ∨ verdictW C length offset x = 1 ∨ verdictW C length offset x = 2 ∨ verdictW C length offset x = 3 := by
  unfold verdictW
  split
  · omega
  split
  · omega
  split <;> omega
/-- The law. -/
theorem apart_law {C : S28} {length offset : Int} {l : List Sh} {i : Nat} {x : Sh} (hx : l[i]? = some x) :
    ∃ v, (thr C length offset l l.length)[i]? = some v ∧ (v = 0 → ¬ metP l (thr C length offset l l.length) i x) ∧ (v = 4 → metP l (thr C length offset l l.length) i x) ∧ ((v = 0 ∨ v = 4) ↔ mineP C length offset x) := by
  have hi : i < l.length := (List.getElem?_eq_some_iff.1 hx).1
  refine ⟨_, thr_said hi hx, ?_⟩
  have hmet : (psd l (thr C length offset l i) (thr C length offset l i).length).any (clsh x) = true ↔ metP l (thr C length offset l l.length) i x := by
    rw [thr_len, psd_any i (by omega) (by rw [thr_len]; exact Nat.le_refl _)]
    unfold metP
    constructor
    · rintro ⟨m, hm, y, hy, ho, hp⟩
      exact ⟨m, hm, y, hy, by rw [thr_get l.length (k := i) (by omega) hm]; exact ho, (clsh_iff x y).1 hp⟩
    · rintro ⟨m, hm, y, hy, ho, hp⟩
      exact ⟨m, hm, y, hy, by rw [thr_get l.length (k := i) (by omega) hm] at ho; exact ho, (clsh_iff x y).2 hp⟩
  rw [mine_iff]
  unfold stepV
  have hs := verdict_some C length offset x
  by_cases hv : verdictW C length offset x = 0
  · by_cases ha : (psd l (thr C length offset l i) (thr C length offset l i).length).any (clsh x) = true
    · rw [if_pos ⟨hv, ha⟩]
      exact ⟨by omega, fun _ => hmet.1 ha, by omega⟩
    · rw [if_neg (fun h => ha h.2)]
      exact ⟨fun _ hm => ha (hmet.2 hm), by omega, by omega⟩
  · rw [if_neg (fun h => hv h.1)]
    exact ⟨fun h => absurd h hv, by omega, by omega⟩
end Go.Proofs.Ytloibbfihkfeeaa
