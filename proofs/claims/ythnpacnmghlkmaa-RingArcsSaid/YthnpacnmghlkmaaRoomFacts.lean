/- What is covered and what the gaps are; what meets no arc. -/
import Derived.Test.YthnpacnmghlkmaaCirc
import Derived.Test.YthnpacnmghlkmaaMayPlain
namespace Go.Proofs.Ythnpacnmghlkmaa.Room
open Go.RowKit Go.Proofs.Ythnpacnmghlkmaa Go.Proofs.Ythnpacnmghlkmaa.Px Go.Proofs.YthnpacnmghlkmaaW.PrintWords

theorem ind_nonneg (C : Int → Bool) (k : Nat) : 0 ≤ sumTo (fun i => if C i = true then 1 else 0) k := by
  induction k with
  | zero => exact Int.le_refl _
  | succ k ih => rw [sumTo]; split <;> omega
theorem ind_zero (C : Int → Bool) (k : Nat) (h : sumTo (fun i => if C i = true then 1 else 0) k = 0) : ∀ i : Nat, i < k → C i = false := by
  induction k with
  | zero => intro i hi; omega
  | succ k ih =>
    intro i hi
    rw [sumTo] at h
    have h0 := ind_nonneg C k
    by_cases hc : C k = true
    · rw [if_pos hc] at h; omega
    · rw [if_neg hc] at h
      by_cases he : i = k
      · subst he; simpa using hc
      · exact ih (by omega) i (by omega)
theorem ind_pos (C : Int → Bool) (k : Nat) (h : sumTo (fun i => if C i = true then 1 else 0) k ≠ 0) : ∃ i : Nat, i < k ∧ C i = true := by
  induction k with
  | zero => exact absurd rfl h
  | succ k ih =>
    rw [sumTo] at h
    by_cases hc : C k = true
    · exact ⟨k, by omega, hc⟩
    · rw [if_neg hc] at h
      obtain ⟨i, hi, hci⟩ := ih (by omega)
      exact ⟨i, by omega, hci⟩
theorem ind_both (C : Int → Bool) (k : Nat) : sumTo (fun i => if C i = true then 1 else 0) k + sumTo (fun i => if C i = true then 0 else 1) k = k := by
  induction k with
  | zero => rfl
  | succ k ih => rw [sumTo, sumTo]; split <;> omega
theorem mem_gapsTo (n : Int) (hn : 1 ≤ n) (has : List Bool) (C : Int → Bool) (hC : ∀ p, 0 ≤ p → p < n → hasAt has p = C p) (hper : ∀ x, C (x % n) = C x) (g : S52) : ∀ k : Nat, (k : Int) ≤ n → (g ∈ gapsTo n hn has k ↔ ∃ i : Nat, i < k ∧ gapAt C i = true ∧ g = ⟨i, (run C i n.toNat : Nat)⟩) := by
  intro k
  induction k with
  | zero => intro _; simp [gapsTo]
  | succ k ih =>
    intro hk
    rw [gapsTo, List.mem_append, ih (by omega), gapStep_at n hn has C hC hper k (by omega) (by omega)]
    constructor
    · rintro (⟨i, hi, h1, h2⟩ | h)
      · exact ⟨i, by omega, h1, h2⟩
      · by_cases hg : gapAt C k = true
        · rw [if_pos hg, List.mem_singleton] at h
          exact ⟨k, by omega, hg, h⟩
        · rw [if_neg hg] at h; simp at h
    · rintro ⟨i, hi, h1, h2⟩
      by_cases hik : i = k
      · subst hik
        right
        rw [if_pos h1, List.mem_singleton]; exact h2
      · exact .inl ⟨i, by omega, h1, h2⟩
theorem cov_per (n : Int) (l : List S52) (hn : 1 ≤ n) : ∀ x, cov n l (x + n.toNat) = cov n l x := fun x => by
  rw [show ((n.toNat : Nat) : Int) = n by omega]; exact cov_add n l x
theorem cov_none (n : Int) (hn : 1 ≤ n) (l : List S52) (hl : ∀ a ∈ l, 0 ≤ a.f1) (h : coveredOf n l = 0) : ∀ x, cov n l x = false := by
  intro x
  rw [coveredOf_sum n hn l hl] at h
  have h0 := Int.emod_nonneg x (b := n) (by omega)
  have h1 := Int.emod_lt_of_pos x (b := n) (by omega)
  have := ind_zero (cov n l) n.toNat h (x % n).toNat (by omega)
  rw [show (((x % n).toNat : Nat) : Int) = x % n by omega, cov_mod] at this
  exact this
theorem run_all (C : Int → Bool) (h : ∀ x, C x = false) (i : Int) (k : Nat) : run C i k = k := by
  have := run_ge C k k i (Nat.le_refl _) (fun d _ => h _)
  have := run_le C k i
  omega
theorem gapsOf_GapsOk (n : Int) (hn : 1 ≤ n) (l : List S52) (hl : ∀ a ∈ l, 0 ≤ a.f1) : GapsOk (cov n l) n.toNat (gapsOf n l) := by
  have hc : coveredOf n l = countOf (takenOf n hn (List.replicate n.toNat false) l) := by unfold coveredOf; rw [dif_pos hn]
  unfold gapsOf
  rw [dif_pos hn, ← hc]
  by_cases h0 : coveredOf n l = 0
  · rw [if_pos h0]
    have hr := run_all _ (cov_none n hn l hl h0)
    refine ⟨fun g hg => ?_, fun size p _ _ hs => ⟨_, List.mem_singleton.2 rfl, ?_, .inl (by simp)⟩⟩
    · rw [List.mem_singleton] at hg
      subst hg
      exact ⟨by simp, by simp; omega, by simp only [hr]; omega⟩
    · rw [hr] at hs; simp only; omega
  · rw [if_neg h0]
    have hm := mem_gapsTo n hn _ (cov n l) (fun p h0 h1 => has_cov n hn l hl p h0 h1) (cov_mod n l)
    refine ⟨fun g hg => ?_, fun size p h1 hp hs => ?_⟩
    · obtain ⟨i, hi, _, rfl⟩ := (hm g n.toNat (by omega)).1 hg
      exact ⟨by simp, by simp; omega, rfl⟩
    · rw [coveredOf_sum n hn l hl] at h0
      obtain ⟨s, _, hs2⟩ := ind_pos _ _ h0
      obtain ⟨i, hi, hg, hr, hor⟩ := gap_of_free (cov n l) n.toNat (cov_per n l hn) s hs2 size p h1 hp hs
      refine ⟨⟨i, (run (cov n l) i n.toNat : Nat)⟩, (hm _ n.toNat (by omega)).2 ⟨i, hi, hg, rfl⟩, by simp only; omega, ?_⟩
      rcases hor with h | h
      · exact .inl h
      · exact .inr h
/-- What is covered, and the gaps, are all places. -/
theorem all_places (n : Int) (hn : 1 ≤ n) (l : List S52) (hl : ∀ a ∈ l, 0 ≤ a.f1) : coveredOf n l + sumOf (fun a => a.f1) (gapsOf n l) = n := by
  have hc : coveredOf n l = countOf (takenOf n hn (List.replicate n.toNat false) l) := by unfold coveredOf; rw [dif_pos hn]
  have hcs := coveredOf_sum n hn l hl
  unfold gapsOf
  rw [dif_pos hn, ← hc]
  by_cases h0 : coveredOf n l = 0
  · rw [if_pos h0, h0]; simp [sumOf]
  · rw [if_neg h0, gapsTo_sum n hn _ (cov n l) (fun p h0 h1 => has_cov n hn l hl p h0 h1) (cov_mod n l) (fun x => x) n.toNat (by omega)]
    rw [hcs] at h0
    obtain ⟨s, _, hs2⟩ := ind_pos _ _ h0
    have hg := gaps_circ (cov n l) n.toNat (by omega) (cov_per n l hn) s hs2
    have hb := ind_both (cov n l) n.toNat
    rw [hcs, ← hg]
    omega
/-- What meets no arc is free. -/
theorem free_iff (n : Int) (hn : 1 ≤ n) (l : List S52) (_hl : ∀ a ∈ l, ArcOk n a) (p : Int) (size : Nat) (hs : 1 ≤ size) (hsn : (size : Int) ≤ n) : (∀ a ∈ l, meetB n ⟨p, size⟩ a = false) ↔ size ≤ run (cov n l) p n.toNat := by
  constructor
  · intro h
    refine run_ge _ _ _ _ (by omega) (fun d hd => ?_)
    by_cases hc : cov n l (p + d) = true
    · exfalso
      unfold cov at hc
      rw [List.any_eq_true] at hc
      obtain ⟨a, ha, hin⟩ := hc
      unfold inArc at hin
      rw [decide_eq_true_iff] at hin
      have hz0 := Int.emod_nonneg (p + d - a.f0) (b := n) (by omega)
      have hz1 := Int.emod_lt_of_pos (p + d - a.f0) (b := n) (by omega)
      have hno := h a ha
      have e1 : (p - a.f0) % n = ((p + d - a.f0) % n - d) % n := by
        rw [Int.emod_sub_emod]; congr 1; omega
      have e2 : (a.f0 - p) % n = (d - (p + d - a.f0) % n) % n := by
        have := Int.sub_emod d ((p + d - a.f0) % n) n
        rw [Int.emod_emod, ← Int.sub_emod] at this
        rw [this]; congr 1; omega
      unfold meetB at hno
      simp only [e1, e2] at hno
      generalize (p + d - a.f0) % n = z at *
      by_cases hzd : (d : Int) ≤ z
      · rw [Int.emod_eq_of_lt (a := z - d) (by omega) (by omega)] at hno
        simp [show 0 < size by omega, show 0 < a.f1 by omega, show z - (d : Int) < a.f1 by omega] at hno
      · rw [Int.emod_eq_of_lt (a := (d : Int) - z) (by omega) (by omega)] at hno
        simp [show 0 < size by omega, show 0 < a.f1 by omega, show (d : Int) - z < size by omega] at hno
    · simpa using hc
  · intro h a ha
    have hC : ∀ x, inArc n a x = true → cov n l x = true := fun x hx => List.any_eq_true.2 ⟨a, ha, hx⟩
    unfold meetB
    by_cases h1 : (0 : Int) < a.f1
    · have k2 : ¬ (p - a.f0) % n < a.f1 := fun hlt => by
        have := hC p (by unfold inArc; simpa using hlt)
        have f := run_free (cov n l) n.toNat p 0 (by omega)
        rw [show p + ((0 : Nat) : Int) = p by omega, this] at f; cases f
      have k1 : ¬ (a.f0 - p) % n < size := fun hlt => by
        have h0 := Int.emod_nonneg (a.f0 - p) (b := n) (by omega)
        have f := run_free (cov n l) n.toNat p ((a.f0 - p) % n).toNat (by omega)
        rw [show (((a.f0 - p) % n).toNat : Int) = (a.f0 - p) % n by omega] at f
        have := hC (p + (a.f0 - p) % n) (by
          unfold inArc
          rw [decide_eq_true_iff, show p + (a.f0 - p) % n - a.f0 = (a.f0 - p) % n - (a.f0 - p) by omega, Int.emod_sub_emod, Int.sub_self]
          simpa using h1)
        rw [this] at f; cases f
      simp [k1, k2]
    · simp [h1]
end Go.Proofs.Ythnpacnmghlkmaa.Room
