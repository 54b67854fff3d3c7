/- The document's gaps are the program's. -/
import Derived.Test.YthnpacnmghlkmaaRefPlain
namespace Go.Proofs.Ythnpacnmghlkmaa.Arcs
open Go.RowKit Go.Proofs.Ythnpacnmghlkmaa Go.Proofs.Ythnpacnmghlkmaa.Room Go.Proofs.Ythnpacnmghlkmaa.Px Go.Proofs.YthnpacnmghlkmaaW.PrintWords Go.Proofs.YthnpacnmghlkmaaW.PrintMore

section
variable (n : Int) (hn : 1 ≤ n) (hn2 : n ≤ 1048576) (C : Int → Bool) (hper : ∀ x, C (x % n) = C x) (t : List Int) (ht : t.length = n.toNat) (hC : ∀ p, 0 ≤ p → p < n → (rd t p > 0 ↔ C p = true))
include hn hn2 ht hC
omit ht hC in
theorem any_true : ∀ (d k x : Nat), n.toNat - x = d → x ≤ n.toNat → d < k → rotaref13_Gaps.l0 k n t true x = rotaref13_Gaps.l1 (k - d - 1) n t [] 0 := by
  intro d
  induction d with
  | zero =>
    intro k x hd hx hk
    obtain ⟨k, rfl⟩ : ∃ m, k = m + 1 := ⟨k - 1, by omega⟩
    simp only [rotaref13_Gaps.l0]
    rw [if_neg (by omega)]
    simp
  | succ d ih =>
    intro k x hd hx hk
    obtain ⟨k, rfl⟩ : ∃ m, k = m + 1 := ⟨k - 1, by omega⟩
    have := ih k (x + 1) (by omega) (by omega) (by omega)
    simp only [rotaref13_Gaps.l0]
    rw [if_pos (by omega)]
    simp only [if_pos]
    rw [wrap_in _ (by omega) (by omega), show (x : Int) + 1 = ((x + 1 : Nat) : Int) by omega, this]
    congr 1; omega
theorem any_none : ∀ (d k x : Nat), n.toNat - x = d → x ≤ n.toNat → d < k → (∀ p : Nat, x ≤ p → p < n.toNat → C p = false) → rotaref13_Gaps.l0 k n t false x = some [⟨0, n⟩] := by
  intro d
  induction d with
  | zero =>
    intro k x hd hx hk _
    obtain ⟨k, rfl⟩ : ∃ m, k = m + 1 := ⟨k - 1, by omega⟩
    simp only [rotaref13_Gaps.l0]
    rw [if_neg (by omega)]
    simp
  | succ d ih =>
    intro k x hd hx hk h
    obtain ⟨k, rfl⟩ : ∃ m, k = m + 1 := ⟨k - 1, by omega⟩
    have := ih k (x + 1) (by omega) (by omega) (by omega) (fun p hp => h p (by omega))
    have hcx := h x (Nat.le_refl _) (by omega)
    have hdx : decide (rd t x > 0) = false := by
      have := hC x (by omega) (by omega)
      rw [hcx] at this
      simpa using this
    simp only [rotaref13_Gaps.l0]
    rw [if_pos (by omega), if_neg (by simp), if_pos (by omega), if_pos (by omega), hdx, wrap_in _ (by omega) (by omega), show (x : Int) + 1 = ((x + 1 : Nat) : Int) by omega, this]
theorem any_some : ∀ (d k x : Nat), n.toNat - x = d → x ≤ n.toNat → d < k → (∃ p : Nat, x ≤ p ∧ p < n.toNat ∧ C p = true) → rotaref13_Gaps.l0 k n t false x = rotaref13_Gaps.l1 (k - d - 1) n t [] 0 := by
  intro d
  induction d with
  | zero => rintro k x hd hx hk ⟨p, h1, h2, _⟩; omega
  | succ d ih =>
    rintro k x hd hx hk ⟨p, h1, h2, h3⟩
    obtain ⟨k, rfl⟩ : ∃ m, k = m + 1 := ⟨k - 1, by omega⟩
    simp only [rotaref13_Gaps.l0]
    rw [if_pos (by omega), if_neg (by simp), if_pos (by omega), if_pos (by omega), wrap_in _ (by omega) (by omega), show (x : Int) + 1 = ((x + 1 : Nat) : Int) by omega]
    have hx2 := hC x (by omega) (by omega)
    by_cases hc : C x = true
    · rw [decide_eq_true (hx2.2 hc), any_true n hn hn2 t d k (x + 1) (by omega) (by omega) (by omega)]
      congr 1; omega
    · rw [decide_eq_false (fun h => hc (hx2.1 h)), ih k (x + 1) (by omega) (by omega) (by omega) ⟨p, by
        by_cases hpx : p = x
        · subst hpx; exact absurd h3 hc
        · omega, h2, h3⟩]
      congr 1; omega
include hper
theorem ref_run (acc : List S52) (hacc : acc.length < 8796093022208) (x : Nat) (hx : (x : Int) < n) : ∀ (d k j : Nat), n.toNat - j = d → j ≤ n.toNat → d < k → (∀ i : Nat, i < j → C (x + i) = false) →
    ∃ k', k ≤ k' + d + 1 ∧ rotaref13_Gaps.l2 k n t acc x j j = rotaref13_Gaps.l1 k' n t (acc ++ [⟨x, (run C x n.toNat : Nat)⟩]) ((x + 1 : Nat) : Int) := by
  intro d
  induction d with
  | zero =>
    intro k j hd hj hk hf
    obtain ⟨k, rfl⟩ : ∃ m, k = m + 1 := ⟨k - 1, by omega⟩
    have h1 := run_ge C n.toNat n.toNat x (Nat.le_refl _) (fun i hi => hf i (by omega))
    have h2 := run_le C n.toNat x
    refine ⟨k, by omega, ?_⟩
    simp only [rotaref13_Gaps.l2]
    rw [if_neg (by omega), if_pos hacc, wrap_in _ (by omega) (by omega), show (x : Int) + 1 = ((x + 1 : Nat) : Int) by omega, show run C x n.toNat = j by omega]
  | succ d ih =>
    intro k j hd hj hk hf
    obtain ⟨k, rfl⟩ : ∃ m, k = m + 1 := ⟨k - 1, by omega⟩
    have q0 := Int.emod_nonneg ((x : Int) + j) (b := n) (by omega)
    have q1 := Int.emod_lt_of_pos ((x : Int) + j) (b := n) (by omega)
    have hcx := hC _ q0 q1
    rw [hper] at hcx
    simp only [rotaref13_Gaps.l2]
    rw [if_pos (by omega), wrap_in ((x : Int) + j) (by omega) (by omega), refPlace_eq _ n hn (by omega), Option.bind_some, if_pos q0, if_pos (by omega)]
    by_cases hc : C (x + j) = true
    · refine ⟨k, by omega, ?_⟩
      have h1 := run_ge C j n.toNat x (by omega) (fun i hi => hf i hi)
      have h2 : run C x n.toNat ≤ j := by
        by_cases h : run C x n.toNat ≤ j
        · exact h
        · have := run_free C n.toNat x j (by omega)
          rw [hc] at this; cases this
      rw [if_pos (hcx.2 hc), if_pos hacc, wrap_in _ (by omega) (by omega), show (x : Int) + 1 = ((x + 1 : Nat) : Int) by omega, show run C x n.toNat = j by omega]
    · rw [if_neg (fun h => hc (hcx.1 h)), wrap_in _ (by omega) (by omega), show (j : Int) + 1 = ((j + 1 : Nat) : Int) by omega]
      obtain ⟨k', h1, h2⟩ := ih k (j + 1) (by omega) (by omega) (by omega) (fun i hi => by
        by_cases hij : i = j
        · subst hij; simpa using hc
        · exact hf i (by omega))
      exact ⟨k', by omega, h2⟩
/-- What has come when x places are tried. -/
def accTo (C : Int → Bool) (N : Nat) : Nat → List S52
  | 0 => []
  | x + 1 => accTo C N x ++ (if gapAt C x = true then [⟨x, (run C x N : Nat)⟩] else [])
omit hn hn2 hper ht hC in
theorem accTo_len (N x : Nat) : (accTo C N x).length ≤ x := by
  induction x with
  | zero => simp [accTo]
  | succ x ih => rw [accTo, List.length_append]; split <;> simp <;> omega
theorem ref_gaps (hZ : ∀ p, 0 ≤ p → p < n → ((rd t p == 0) = !C p)) : ∀ (D k x : Nat), n.toNat - x = D → x ≤ n.toNat → D * (n.toNat + 4) < k → rotaref13_Gaps.l1 k n t (accTo C n.toNat x) x = some (accTo C n.toNat n.toNat) := by
  intro D
  induction D with
  | zero =>
    intro k x hd hx hk
    obtain ⟨k, rfl⟩ : ∃ m, k = m + 1 := ⟨k - 1, by omega⟩
    simp only [rotaref13_Gaps.l1]
    rw [if_neg (by omega), show x = n.toNat by omega]
  | succ D ih =>
    intro k x hd hx hk
    rw [Nat.succ_mul] at hk
    obtain ⟨k, rfl⟩ : ∃ m, k = m + 2 := ⟨k - 2, by omega⟩
    have q0 := Int.emod_nonneg ((x : Int) - 1) (b := n) (by omega)
    have q1 := Int.emod_lt_of_pos ((x : Int) - 1) (b := n) (by omega)
    have hcb := hC _ q0 q1
    rw [hper] at hcb
    have hcx := hC x (by omega) (by omega)
    have hl := accTo_len C n.toNat x
    have next := fun (k' : Nat) (hk' : D * (n.toNat + 4) < k') => ih k' (x + 1) (by omega) (by omega) hk'
    have hz : (rd t (((x : Int) - 1) % n) == 0) = !C ((x : Int) - 1) := by
      rw [hZ _ q0 q1, hper]
    have skip : gapAt C x = false → rotaref13_Gaps.j2 (k + 1) n t (accTo C n.toNat x) x true = some (accTo C n.toNat n.toNat) := fun hg => by
      simp only [rotaref13_Gaps.j2]
      rw [if_pos trivial, wrap_in _ (by omega) (by omega), show (x : Int) + 1 = ((x + 1 : Nat) : Int) by omega]
      have := next k (by omega)
      rw [accTo, hg] at this
      simpa using this
    rw [show k + 2 = (k + 1) + 1 from rfl]
    simp only [rotaref13_Gaps.l1]
    rw [if_pos (by omega), wrap_in _ (by omega) (by omega), refPlace_eq _ n hn (by omega), Option.bind_some, if_pos (by omega), if_pos (by omega)]
    by_cases hc : C x = true
    · rw [if_pos (hcx.2 hc)]
      exact skip (by unfold gapAt; rw [hc]; rfl)
    · rw [if_neg (fun h => hc (hcx.1 h)), if_pos q0, if_pos (by omega), hz]
      rw [Bool.not_eq_true] at hc
      by_cases hb : C ((x : Int) - 1) = true
      · rw [hb]
        simp only [rotaref13_Gaps.j2]
        rw [if_neg (by simp)]
        obtain ⟨k', h1, h2⟩ := ref_run n hn hn2 C hper t ht hC (accTo C n.toNat x) (by omega) x (by omega) n.toNat k 0 (by omega) (by omega) (by omega) (fun i hi => by omega)
        rw [show ((0 : Nat) : Int) = 0 from rfl] at h2
        rw [h2]
        have := next k' (by omega)
        rw [accTo, show gapAt C x = true by unfold gapAt; rw [hc, hb]; rfl, if_pos rfl] at this
        exact this
      · rw [Bool.not_eq_true] at hb
        rw [hb]
        exact skip (by unfold gapAt; rw [hc, hb]; rfl)
end
theorem gapsTo_acc (n : Int) (hn : 1 ≤ n) (has : List Bool) (C : Int → Bool) (hC : ∀ p, 0 ≤ p → p < n → hasAt has p = C p) (hper : ∀ x, C (x % n) = C x) : ∀ k : Nat, (k : Int) ≤ n → gapsTo n hn has k = accTo C n.toNat k := by
  intro k
  induction k with
  | zero => intro _; rfl
  | succ k ih => intro hk; rw [gapsTo, accTo, ih (by omega), gapStep_at n hn has C hC hper k (by omega) (by omega)]
/-- The document's gaps are the program's. -/
theorem refGaps_eq (k : Nat) (n : Int) (l : List S52) (hn : 1 ≤ n) (hn2 : n ≤ 1000) (hl : l.length ≤ 20) (h : ∀ a ∈ l, ArcOk n a) (hk : 1100000 ≤ k) : rotaref13_Gaps.f k l n = some (gapsOf n l) := by
  have hl0 : ∀ a ∈ l, 0 ≤ a.f1 := fun a ha => (h a ha).2.2.1
  have hm1 : l.length * (n.toNat + 2) ≤ 20 * 1002 := Nat.mul_le_mul hl (by omega)
  have hm2 : n.toNat * (n.toNat + 4) ≤ 1000 * 1004 := Nat.mul_le_mul (by omega) (by omega)
  obtain ⟨t, ht, he⟩ := taken_spec n hn (by omega) l (by omega) h k (by omega)
  have hC : ∀ p, 0 ≤ p → p < n → (rd t p > 0 ↔ cov n l p = true) := fun p h0 h1 => by rw [ht.2 p h0 h1]; exact cnt_pos n l p
  have hZ : ∀ p, 0 ≤ p → p < n → ((rd t p == 0) = !cov n l p) := fun p h0 h1 => by
    rw [ht.2 p h0 h1]
    have := cnt_pos n l p
    have hb := cnt_bound n l p
    cases hc : cov n l p
    · rw [hc] at this; simp at this ⊢; omega
    · rw [hc] at this; simp at this ⊢; omega
  unfold rotaref13_Gaps.f
  rw [he, Option.bind_some]
  have hcs := coveredOf_sum n hn l hl0
  have hc : coveredOf n l = countOf (takenOf n hn (List.replicate n.toNat false) l) := by unfold coveredOf; rw [dif_pos hn]
  have hg : gapsOf n l = if coveredOf n l = 0 then [⟨0, n⟩] else accTo (cov n l) n.toNat n.toNat := by
    unfold gapsOf
    rw [dif_pos hn, ← hc, gapsTo_acc n hn _ (cov n l) (fun p h0 h1 => has_cov n hn l hl0 p h0 h1) (cov_mod n l) n.toNat (by omega)]
  rw [hg]
  by_cases h0 : coveredOf n l = 0
  · rw [if_pos h0]
    have := any_none n hn (by omega) (cov n l) t ht.1 hC n.toNat k 0 (by omega) (by omega) (by omega) (fun p _ _ => cov_none n hn l hl0 h0 p)
    simpa using this
  · rw [if_neg h0]
    rw [hcs] at h0
    obtain ⟨i, hi, hci⟩ := ind_pos _ _ h0
    have := any_some n hn (by omega) (cov n l) t ht.1 hC n.toNat k 0 (by omega) (by omega) (by omega) ⟨i, by omega, hi, hci⟩
    rw [show ((0 : Nat) : Int) = 0 from rfl] at this
    rw [this]
    have := ref_gaps n hn (by omega) (cov n l) (cov_mod n l) t ht.1 hC hZ n.toNat (k - n.toNat - 1) 0 (by omega) (by omega) (by omega)
    simpa [accTo] using this
/-- Two lists that are one. -/
theorem same_eq (l : List S52) (hl : l.length ≤ 1000000) : ∀ (d k x : Nat), l.length - x = d → x ≤ l.length → d < k → rotaref13_Same.l0 k l l x = some true := by
  intro d
  induction d with
  | zero =>
    intro k x hd hx hk
    obtain ⟨k, rfl⟩ : ∃ m, k = m + 1 := ⟨k - 1, by omega⟩
    simp only [rotaref13_Same.l0]
    rw [if_neg (by omega)]
  | succ d ih =>
    intro k x hd hx hk
    obtain ⟨k, rfl⟩ : ∃ m, k = m + 1 := ⟨k - 1, by omega⟩
    have := ih k (x + 1) (by omega) (by omega) (by omega)
    simp only [rotaref13_Same.l0]
    rw [if_pos (by omega), if_pos (by omega), if_pos (by omega), if_neg (by simp), wrap_in _ (by omega) (by omega), show (x : Int) + 1 = ((x + 1 : Nat) : Int) by omega, this]
end Go.Proofs.Ythnpacnmghlkmaa.Arcs
