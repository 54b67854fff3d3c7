/- Gcd, Lcm, Hyper and Falls, the program's and the document's, in plain numbers. -/
import Derived.Test.YthnpacnmghlkmaaPlain
import Derived.Test.YthnpacnmghlkmaaPx4
import Derived.Test.YthnpacnmghlkmaaPx5
namespace Go.Proofs.Ythnpacnmghlkmaa
open Go.RowKit Go.Proofs.Ythnpacnmghlkmaa.Px Go.Proofs.YthnpacnmghlkmaaW.PrintWords Go.Proofs.YthnpacnmghlkmaaW.PrintLast

def Small (x : Int) : Prop := -2147483648 ≤ x ∧ x ≤ 2147483647
instance (x : Int) : Decidable (Small x) := inferInstanceAs (Decidable (_ ∧ _))
theorem small_loop (l : List Int) (hl : l.length ≤ 1000) : ∀ (d k i : Nat), l.length - i = d → i ≤ l.length → d < k → ring_small.l0 k l (l.length : Int) (i : Int) = some (decide (∀ x ∈ l.drop i, Small x)) := by
  intro d
  induction d with
  | zero =>
    intro k i hd hi hk
    obtain ⟨k, rfl⟩ : ∃ m, k = m + 1 := ⟨k - 1, by omega⟩
    simp only [ring_small.l0]
    rw [if_neg (by omega), List.drop_eq_nil_of_le (by omega)]
    simp
  | succ d ih =>
    intro k i hd hi hk
    obtain ⟨k, rfl⟩ : ∃ m, k = m + 1 := ⟨k - 1, by omega⟩
    have hlt : i < l.length := by omega
    have hr : rd l (i : Int) = l[i] := by unfold rd; rw [Int.toNat_natCast, List.getD_eq_getElem?_getD, List.getElem?_eq_getElem hlt]; rfl
    simp only [ring_small.l0]
    rw [if_pos (by omega), if_pos (by omega), if_pos (by omega), hr, List.drop_eq_getElem_cons hlt, wrap_in _ (by omega) (by omega), show (i : Int) + 1 = ((i + 1 : Nat) : Int) by omega, ih k (i + 1) (by omega) (by omega) (by omega)]
    by_cases h1 : l[i] < -2147483648
    · rw [if_pos h1]; congr 1; symm; rw [decide_eq_false_iff_not]; intro h; have := (h l[i] List.mem_cons_self).1; omega
    · rw [if_neg h1]
      by_cases h2 : l[i] > 2147483647
      · rw [if_pos h2]; congr 1; symm; rw [decide_eq_false_iff_not]; intro h; have := (h l[i] List.mem_cons_self).2; omega
      · rw [if_neg h2]; congr 1; rw [decide_eq_decide]
        constructor
        · intro h x hx
          rcases List.mem_cons.1 hx with rfl | hx
          · exact ⟨by omega, by omega⟩
          · exact h x hx
        · intro h x hx; exact h x (List.mem_cons_of_mem _ hx)
theorem small_eq (l : List Int) (hl : l.length ≤ 1000) (k : Nat) (hk : l.length < k) : ring_small.f k l = some (decide (∀ x ∈ l, Small x)) := small_loop l hl l.length k 0 (by omega) (by omega) hk
theorem refSmall_eq (x : Int) : rotaref13_small.f x = some (decide (Small x)) := by
  unfold rotaref13_small.f
  by_cases h : x ≥ -2147483648
  · rw [if_pos h]
    by_cases h2 : x ≤ 2147483647
    · rw [decide_eq_true h2, decide_eq_true (show Small x from ⟨h, h2⟩)]
    · rw [decide_eq_false h2, decide_eq_false (show ¬ Small x from fun hs => h2 hs.2)]
  · rw [if_neg h, decide_eq_false (show ¬ Small x from fun hs => h hs.1)]

theorem gcd_loop : ∀ (d k : Nat) (a b : Int), b.natAbs = d → -2147483648 ≤ a → a ≤ 2147483648 → -2147483648 ≤ b → b ≤ 2147483648 → d < k → ring_Gcd.l0 k a b = some ((Int.gcd a b : Nat) : Int) := by
  intro d
  induction d using Nat.strongRecOn with
  | ind d ih =>
    intro k a b hd ha0 ha1 hb0 hb1 hk
    obtain ⟨k, rfl⟩ : ∃ m, k = m + 1 := ⟨k - 1, by omega⟩
    simp only [ring_Gcd.l0]
    by_cases h : b = 0
    · rw [if_pos h, h, Int.gcd_zero_right, wrap_in _ (by omega) (by omega)]
      congr 1
      unfold mx; split <;> omega
    · rw [if_neg h]
      have hlt : (Int.tmod a b).natAbs < b.natAbs := by rw [Int.natAbs_tmod]; exact Nat.mod_lt _ (by omega)
      rw [ih _ (by rw [← hd]; exact hlt) k b (Int.tmod a b) rfl hb0 hb1 (by omega) (by omega) (by omega)]
      congr 2
      unfold Int.gcd
      rw [Int.natAbs_tmod, Nat.gcd_comm b.natAbs, ← Nat.gcd_rec, Nat.gcd_comm]
theorem gcd_eq (k : Nat) (a b : Int) (hk : 2147483650 < k) : ring_Gcd.f k a b = some (if Small a ∧ Small b then ((Int.gcd a b : Nat) : Int) else 0) := by
  unfold ring_Gcd.f
  rw [small_eq _ (by simp) k (by simp; omega), Option.bind_some]
  by_cases h : Small a ∧ Small b
  · rw [if_pos (by rw [decide_eq_true_iff]; intro x hx; simp at hx; rcases hx with rfl | rfl; exact h.1; exact h.2), if_pos h]
    obtain ⟨h1, h2⟩ := h
    unfold Small at h1 h2
    exact gcd_loop _ k a b rfl (by omega) (by omega) (by omega) (by omega) (by omega)
  · rw [if_neg (by rw [decide_eq_true_iff]; intro hh; exact h ⟨hh a (by simp), hh b (by simp)⟩), if_neg h]
/-- Two rounds halve the rest: a hundred rounds are enough. -/
theorem refGcd_loop : ∀ (j k a b i : Nat), b < 2 ^ j → i + 2 * j < 100 → 2 * j + 1 < k → rotaref13_Gcd.l0 k (a : Int) (b : Int) (i : Int) = some ((Nat.gcd a b : Nat) : Int) := by
  intro j
  induction j with
  | zero =>
    intro k a b i hb hi hk
    obtain ⟨k, rfl⟩ : ∃ m, k = m + 1 := ⟨k - 1, by omega⟩
    obtain rfl : b = 0 := by simpa using hb
    simp only [rotaref13_Gcd.l0]
    rw [if_pos (by omega), if_neg (by omega), Nat.gcd_zero_right]
  | succ j ih =>
    intro k a b i hb hi hk
    obtain ⟨k, rfl⟩ : ∃ m, k = m + 2 := ⟨k - 2, by omega⟩
    rw [rotaref13_Gcd.l0, if_pos (by omega)]
    by_cases h0 : b = 0
    · subst h0; rw [if_neg (by omega), Nat.gcd_zero_right]
    · have e1 : Int.tmod (a : Int) (b : Int) = ((a % b : Nat) : Int) := by rw [Int.tmod_eq_emod_of_nonneg (by omega)]; rfl
      have hr := Nat.mod_lt a (show 0 < b by omega)
      rw [if_pos (by omega), if_neg (by omega), e1, wrap_in _ (by omega) (by omega), rotaref13_Gcd.l0, if_pos (by omega)]
      have g1 : Nat.gcd a b = Nat.gcd b (a % b) := by rw [Nat.gcd_comm a b, Nat.gcd_rec, Nat.gcd_comm]
      generalize a % b = r at *
      by_cases h1 : r = 0
      · subst h1; rw [if_neg (by omega), g1, Nat.gcd_zero_right]
      · have e2 : Int.tmod (b : Int) (r : Int) = ((b % r : Nat) : Int) := by rw [Int.tmod_eq_emod_of_nonneg (by omega)]; rfl
        have hr2 := Nat.mod_lt b (show 0 < r by omega)
        rw [if_pos (by omega), if_neg (by omega), e2, wrap_in _ (by omega) (by omega)]
        have hhalf : b % r < 2 ^ j := by
          rw [Nat.pow_succ] at hb
          by_cases h2 : 2 * r ≤ b
          · omega
          · have : b % r = b - r := by rw [Nat.mod_eq_sub_mod (by omega), Nat.mod_eq_of_lt (by omega)]
            omega
        rw [show ((i : Int) + 1 + 1) = ((i + 2 : Nat) : Int) by omega, ih k r (b % r) (i + 2) hhalf (by omega) (by omega), g1]
        congr 2
        rw [Nat.gcd_comm b r, Nat.gcd_rec r b, Nat.gcd_comm (b % r) r]
theorem refGcd_eq (k : Nat) (a b : Int) (hk : 100 < k) : rotaref13_Gcd.f k a b = some (if Small a ∧ Small b then ((Int.gcd a b : Nat) : Int) else 0) := by
  unfold rotaref13_Gcd.f
  obtain ⟨k, rfl⟩ : ∃ m, k = m + 3 := ⟨k - 3, by omega⟩
  rw [refSmall_eq, Option.bind_some, refSmall_eq, Option.bind_some]
  by_cases h1 : Small a
  · rw [if_pos (decide_eq_true h1)]
    by_cases h2 : Small b
    · rw [if_pos ⟨h1, h2⟩, decide_eq_true h2]
      unfold Small at h1 h2
      have hb : b.natAbs < 2 ^ 33 := by
        have : (2 : Nat) ^ 33 = 8589934592 := by decide
        omega
      have key := refGcd_loop 33 k a.natAbs b.natAbs 0 hb (by omega) (by omega)
      simp only [rotaref13_Gcd.j0, Bool.not_true, Bool.false_eq_true, if_false]
      by_cases ha : a < 0
      · rw [if_pos ha, wrap_in _ (by omega) (by omega)]
        simp only [rotaref13_Gcd.j1]
        by_cases hb' : b < 0
        · rw [if_pos hb', wrap_in _ (by omega) (by omega), rotaref13_Gcd.j2, show -a = ((a.natAbs : Nat) : Int) by omega, show -b = ((b.natAbs : Nat) : Int) by omega]; exact key
        · rw [if_neg hb', rotaref13_Gcd.j2, show -a = ((a.natAbs : Nat) : Int) by omega]
          conv => lhs; rw [show b = ((b.natAbs : Nat) : Int) by omega]
          exact key
      · rw [if_neg ha]
        simp only [rotaref13_Gcd.j1]
        by_cases hb' : b < 0
        · rw [if_pos hb', wrap_in _ (by omega) (by omega), rotaref13_Gcd.j2, show -b = ((b.natAbs : Nat) : Int) by omega]
          conv => lhs; rw [show a = ((a.natAbs : Nat) : Int) by omega]
          exact key
        · rw [if_neg hb', rotaref13_Gcd.j2]
          conv => lhs; rw [show b = ((b.natAbs : Nat) : Int) by omega, show a = ((a.natAbs : Nat) : Int) by omega]
          exact key
    · rw [if_neg (fun h => h2 h.2), decide_eq_false h2]; simp [rotaref13_Gcd.j0]
  · rw [if_neg (by simpa using h1), if_neg (fun h => h1 h.1)]; simp [rotaref13_Gcd.j0]

/-- The least multiple of both, or the error. -/
def lcmOf (a b : Int) : Int × Int := if 1 ≤ a ∧ 1 ≤ b ∧ Small a ∧ Small b ∧ a / (Int.gcd a b : Int) * b ≤ 2147483647 then (a / (Int.gcd a b : Int) * b, 0) else (0, 2)
theorem lcm_facts (a b : Int) (ha : 1 ≤ a) (hb : 1 ≤ b) (ha2 : a ≤ 2147483647) (hb2 : b ≤ 2147483647) : 0 < (Int.gcd a b : Int) ∧ 1 ≤ a / (Int.gcd a b : Int) ∧ a / (Int.gcd a b : Int) ≤ a ∧ 1 ≤ a / (Int.gcd a b : Int) * b ∧ a / (Int.gcd a b : Int) * b ≤ 4611686014132420609 := by
  have hg : 0 < Int.gcd a b := Int.gcd_pos_of_ne_zero_left b (by omega)
  obtain ⟨c, hc⟩ := Int.gcd_dvd_left a b
  have hq : a / (Int.gcd a b : Int) = c := Int.ediv_eq_of_eq_mul_right (by omega) hc
  rw [hq]
  have hc1 : 1 ≤ c := by
    rcases Int.lt_or_le c 1 with h | h
    · have : (Int.gcd a b : Int) * c ≤ (Int.gcd a b : Int) * 0 := Int.mul_le_mul_of_nonneg_left (by omega) (by omega)
      omega
    · exact h
  have hca : c ≤ a := by
    have : 1 * c ≤ (Int.gcd a b : Int) * c := Int.mul_le_mul_of_nonneg_right (by omega) (by omega)
    omega
  have h1 : 1 * b ≤ c * b := Int.mul_le_mul_of_nonneg_right hc1 (by omega)
  have h2 : c * b ≤ 2147483647 * b := Int.mul_le_mul_of_nonneg_right (by omega) (by omega)
  refine ⟨by omega, hc1, hca, by omega, by omega⟩
theorem lcm_eq (k : Nat) (a b : Int) (hk : 2147483660 < k) : ring_Lcm.f k a b = some (lcmOf a b) := by
  obtain ⟨k, rfl⟩ : ∃ m, k = m + 1 := ⟨k - 1, by omega⟩
  unfold ring_Lcm.f lcmOf
  by_cases h1 : a < 1
  · rw [if_pos h1, if_neg (by omega)]; simp [ring_Lcm.j0]
  · rw [if_neg h1]
    by_cases h2 : b < 1
    · rw [if_pos h2, if_neg (by omega)]; simp [ring_Lcm.j0]
    · rw [if_neg h2, small_eq _ (by simp) _ (by simp; omega), Option.bind_some]
      by_cases h3 : Small a ∧ Small b
      · rw [decide_eq_true (show ∀ x ∈ [a, b], Small x by intro x hx; simp at hx; rcases hx with rfl | rfl; exact h3.1; exact h3.2)]
        obtain ⟨hg, hq1, hq2, hn1, hn2⟩ := lcm_facts a b (by omega) (by omega) h3.1.2 h3.2.2
        have ea : wrap64 (Int.tdiv a (Int.gcd a b : Int)) = a / (Int.gcd a b : Int) := by
          rw [Int.tdiv_eq_ediv_of_nonneg (by omega), wrap_in _ (by omega) (by have := h3.1.2; omega)]
        simp only [ring_Lcm.j0, Bool.not_true, Bool.false_eq_true, if_false]
        rw [gcd_eq k a b (by omega), if_pos h3, Option.bind_some, if_neg (by omega), ea, wrap_in (a / (Int.gcd a b : Int) * b) (by omega) (by omega), small_eq _ (by simp) _ (by simp; omega), Option.bind_some]
        by_cases h4 : a / (Int.gcd a b : Int) * b ≤ 2147483647
        · rw [decide_eq_true (show ∀ x ∈ [a / (Int.gcd a b : Int) * b], Small x by intro x hx; simp at hx; subst hx; exact ⟨by omega, h4⟩), if_pos rfl, if_pos ⟨by omega, by omega, h3.1, h3.2, h4⟩]
        · rw [decide_eq_false (fun h => h4 (h _ (by simp)).2), if_neg (by simp), if_neg (fun h => h4 h.2.2.2.2)]
      · rw [decide_eq_false (fun h => h3 ⟨h a (by simp), h b (by simp)⟩), if_neg (fun h => h3 ⟨h.2.2.1, h.2.2.2.1⟩)]
        simp [ring_Lcm.j0]
theorem refLcm_eq (k : Nat) (a b : Int) (hk : 110 < k) : rotaref13_Lcm.f k a b = some (lcmOf a b) := by
  obtain ⟨k, rfl⟩ : ∃ m, k = m + 1 := ⟨k - 1, by omega⟩
  unfold rotaref13_Lcm.f lcmOf
  by_cases h1 : a < 1
  · rw [if_pos h1, if_neg (by omega)]; simp [rotaref13_Lcm.j0]
  · rw [if_neg h1]
    by_cases h2 : b < 1
    · rw [if_pos h2, if_neg (by omega)]; simp [rotaref13_Lcm.j0]
    · rw [if_neg h2]
      by_cases h3 : a > 2147483647
      · rw [if_pos h3, if_neg (fun h => by have := h.2.2.1.2; omega)]; simp [rotaref13_Lcm.j0]
      · rw [if_neg h3]
        by_cases h5 : b > 2147483647
        · rw [decide_eq_true h5, if_neg (fun h => by have := h.2.2.2.1.2; omega)]; simp [rotaref13_Lcm.j0]
        · rw [decide_eq_false h5]
          have ha : Small a := ⟨by omega, by omega⟩
          have hb : Small b := ⟨by omega, by omega⟩
          obtain ⟨hg, hq1, hq2, hn1, hn2⟩ := lcm_facts a b (by omega) (by omega) ha.2 hb.2
          have ea : wrap64 (Int.tdiv a (Int.gcd a b : Int)) = a / (Int.gcd a b : Int) := by
            rw [Int.tdiv_eq_ediv_of_nonneg (by omega), wrap_in _ (by omega) (by omega)]
          simp only [rotaref13_Lcm.j0, Bool.false_eq_true, if_false]
          rw [refGcd_eq k a b (by omega), if_pos ⟨ha, hb⟩, Option.bind_some, if_neg (by omega), ea, wrap_in (a / (Int.gcd a b : Int) * b) (by omega) (by omega)]
          by_cases h4 : a / (Int.gcd a b : Int) * b > 2147483647
          · rw [if_pos h4, if_neg (fun h => by have := h.2.2.2.2; omega)]
          · rw [if_neg h4, if_pos ⟨by omega, by omega, ha, hb, by omega⟩]
/-- The least multiple of all, or the error. -/
def hyperOf (n : Int) : List Int → Int × Int
  | [] => (n, 0)
  | a :: l => if (lcmOf n a).2 = 0 then hyperOf (lcmOf n a).1 l else (0, (lcmOf n a).2)
theorem rd_at {l : List Int} {i : Nat} (h : i < l.length) : rd l (i : Int) = l[i] := by
  unfold rd; rw [Int.toNat_natCast, List.getD_eq_getElem?_getD, List.getElem?_eq_getElem h]; rfl
theorem hyper_loop (l : List Int) (hl : l.length ≤ 100) : ∀ (d k i : Nat) (n : Int), l.length - i = d → i ≤ l.length → d + 2147483661 < k → ring_Hyper.l0 k n l (l.length : Int) (i : Int) = some (hyperOf n (l.drop i)) := by
  intro d
  induction d with
  | zero =>
    intro k i n hd hi hk
    obtain ⟨k, rfl⟩ : ∃ m, k = m + 1 := ⟨k - 1, by omega⟩
    simp only [ring_Hyper.l0]
    rw [if_neg (by omega), List.drop_eq_nil_of_le (by omega)]; rfl
  | succ d ih =>
    intro k i n hd hi hk
    obtain ⟨k, rfl⟩ : ∃ m, k = m + 1 := ⟨k - 1, by omega⟩
    have hlt : i < l.length := by omega
    simp only [ring_Hyper.l0]
    rw [if_pos (by omega), if_pos (by omega), if_pos (by omega), rd_at hlt, lcm_eq k _ _ (by omega), Option.bind_some, List.drop_eq_getElem_cons hlt, hyperOf]
    by_cases h : (lcmOf n l[i]).2 = 0
    · rw [if_pos h, if_pos h, wrap_in _ (by omega) (by omega), show (i : Int) + 1 = ((i + 1 : Nat) : Int) by omega]
      exact ih k (i + 1) _ (by omega) (by omega) (by omega)
    · rw [if_neg h, if_neg h]
theorem hyper_eq (k : Nat) (l : List Int) (hl : l.length ≤ 100) (hk : 2147483800 < k) : ring_Hyper.f k l = some (hyperOf 1 l) := by
  have := hyper_loop l hl l.length k 0 1 (by omega) (by omega) (by omega)
  unfold ring_Hyper.f; simpa using this
theorem refHyper_loop (l : List Int) (hl : l.length ≤ 100) : ∀ (d k i : Nat) (n : Int), l.length - i = d → i ≤ l.length → d + 111 < k → rotaref13_Hyper.l0 k l n (i : Int) = some (hyperOf n (l.drop i)) := by
  intro d
  induction d with
  | zero =>
    intro k i n hd hi hk
    obtain ⟨k, rfl⟩ : ∃ m, k = m + 1 := ⟨k - 1, by omega⟩
    simp only [rotaref13_Hyper.l0]
    rw [if_neg (by omega), List.drop_eq_nil_of_le (by omega)]; rfl
  | succ d ih =>
    intro k i n hd hi hk
    obtain ⟨k, rfl⟩ : ∃ m, k = m + 1 := ⟨k - 1, by omega⟩
    have hlt : i < l.length := by omega
    simp only [rotaref13_Hyper.l0]
    rw [if_pos (by omega), if_pos (by omega), rd_at hlt, refLcm_eq k _ _ (by omega), Option.bind_some, List.drop_eq_getElem_cons hlt, hyperOf]
    by_cases h : (lcmOf n l[i]).2 = 0
    · rw [if_pos h, if_pos h, wrap_in _ (by omega) (by omega), show (i : Int) + 1 = ((i + 1 : Nat) : Int) by omega]
      exact ih k (i + 1) _ (by omega) (by omega) (by omega)
    · rw [if_neg h, if_neg h]
theorem refHyper_eq (k : Nat) (l : List Int) (hl : l.length ≤ 100) (hk : 300 < k) : rotaref13_Hyper.f k l = some (hyperOf 1 l) := by
  have := refHyper_loop l hl l.length k 0 1 (by omega) (by omega) (by omega)
  unfold rotaref13_Hyper.f; simpa using this
/-! How often something falls. -/
/-- The quotient, rounded up. -/
def up (n p : Int) : Int := -((-n) / p)
theorem up_spec (n p : Int) (hp : 0 < p) : n ≤ up n p * p ∧ up n p * p < n + p := by
  unfold up
  have h1 := Int.mul_ediv_add_emod (-n) p
  have h2 := Int.emod_nonneg (-n) (show p ≠ 0 by omega)
  have h3 := Int.emod_lt_of_pos (-n) hp
  rw [Int.neg_mul, Int.mul_comm (-n / p) p]
  omega
theorem up_unique (n p q : Int) (hp : 0 < p) (h1 : n ≤ q * p) (h2 : q * p < n + p) : up n p = q := by
  obtain ⟨a1, a2⟩ := up_spec n p hp
  have e1 : (up n p - q) * p < 1 * p := by rw [Int.sub_mul]; omega
  have e2 : (q - up n p) * p < 1 * p := by rw [Int.sub_mul]; omega
  have := Int.lt_of_mul_lt_mul_right e1 (by omega)
  have := Int.lt_of_mul_lt_mul_right e2 (by omega)
  omega
theorem up_shift (n p q : Int) (hp : 0 < p) : up (n + q * p) p = up n p + q := by
  obtain ⟨a1, a2⟩ := up_spec n p hp
  refine up_unique _ p _ hp ?_ ?_ <;> rw [Int.add_mul] <;> omega
theorem tdiv_cases (n p : Int) (hp : 0 < p) : (0 < Int.tmod n p ∧ up n p = Int.tdiv n p + 1) ∨ (Int.tmod n p ≤ 0 ∧ up n p = Int.tdiv n p) := by
  have h := Int.mul_tdiv_add_tmod n p
  rw [Int.mul_comm] at h
  rcases Int.lt_or_le 0 (Int.tmod n p) with h1 | h1
  · left
    refine ⟨h1, up_unique n p _ hp ?_ ?_⟩
    · have := Int.tmod_lt_of_pos n hp; rw [Int.add_mul]; omega
    · rw [Int.add_mul]; omega
  · right
    refine ⟨h1, up_unique n p _ hp (by omega) ?_⟩
    have h5 := Int.emod_nonneg n (show p ≠ 0 by omega)
    have h6 := Int.emod_lt_of_pos n hp
    have e := tmod_emod n p (by omega)
    have e2 : n % p = 0 → Int.tmod n p = 0 := fun h0 => Int.tmod_eq_zero_of_dvd (Int.dvd_of_emod_eq_zero h0)
    generalize Int.tmod n p = T at *
    generalize n % p = M at *
    generalize Int.tdiv n p * p = Q at *
    omega
theorem tdiv_small (n p : Int) (_hp : 0 < p) (h0 : -4611686018427387904 ≤ n) (h1 : n ≤ 4611686018427387904) : -4611686018427387904 ≤ Int.tdiv n p ∧ Int.tdiv n p ≤ 4611686018427387904 := by
  have := Int.natAbs_tdiv_le_natAbs n p
  omega
theorem refBelow_eq (n p : Int) (hp : 0 < p) (h0 : -4611686018427387904 ≤ n) (h1 : n ≤ 4611686018427387904) : rotaref13_below.f p n = some (up n p) := by
  unfold rotaref13_below.f
  obtain ⟨t0, t1⟩ := tdiv_small n p hp h0 h1
  rw [if_neg (by omega)]
  rcases tdiv_cases n p hp with ⟨h, e⟩ | ⟨h, e⟩
  · rw [if_pos h, wrap_in (Int.tdiv n p) (by omega) (by omega), wrap_in _ (by omega) (by omega), e]
  · rw [if_neg (by omega), wrap_in _ (by omega) (by omega), e]
def fallsOf (p o from_ to_ : Int) : Int × Int :=
  if p < 1 ∨ ¬ (Small p ∧ Small o ∧ Small from_ ∧ Small to_) then (0, 2) else if to_ ≤ from_ then (0, 0) else (up (to_ - from_ - (o - from_) % p) p, 0)
theorem up_mod (o f t p : Int) (hp : 0 < p) : up (t - o) p - up (f - o) p = up (t - f - (o - f) % p) p := by
  have h := Int.mul_ediv_add_emod (o - f) p
  rw [Int.mul_comm] at h
  have e1 : t - o = (t - f - (o - f) % p) + (-((o - f) / p)) * p := by rw [Int.neg_mul]; omega
  have e2 : up (f - o) p = -((o - f) / p) := by
    unfold up; congr 2; omega
  rw [e1, up_shift _ _ _ hp, e2]; omega
theorem up_nonpos (n p : Int) (hp : 0 < p) (h0 : -p < n) (h1 : n ≤ 0) : up n p = 0 := up_unique n p 0 hp (by omega) (by omega)
theorem up_pos (n p : Int) (hp : 0 < p) (_h1 : 0 < n) : up n p = (n - 1) / p + 1 := by
  have h := Int.mul_ediv_add_emod (n - 1) p
  have h2 := Int.emod_nonneg (n - 1) (show p ≠ 0 by omega)
  have h3 := Int.emod_lt_of_pos (n - 1) hp
  rw [Int.mul_comm] at h
  refine up_unique n p _ hp ?_ ?_ <;> rw [Int.add_mul] <;> omega
theorem falls_eq (k : Nat) (p o f t : Int) (hk : 10 < k) : ring_Falls.f k p o f t = some (fallsOf p o f t) := by
  obtain ⟨k, rfl⟩ : ∃ m, k = m + 1 := ⟨k - 1, by omega⟩
  unfold ring_Falls.f fallsOf
  by_cases h1 : p < 1
  · rw [if_pos h1, if_pos (.inl h1)]; simp [ring_Falls.j0]
  · rw [if_neg h1, small_eq _ (by simp) _ (by simp; omega), Option.bind_some]
    by_cases h2 : Small p ∧ Small o ∧ Small f ∧ Small t
    · rw [decide_eq_true (show ∀ x ∈ [p, o, f, t], Small x by intro x hx; simp at hx; rcases hx with rfl | rfl | rfl | rfl; exact h2.1; exact h2.2.1; exact h2.2.2.1; exact h2.2.2.2), if_neg (by rintro (h | h); exact h1 h; exact h h2)]
      obtain ⟨⟨p0, p1⟩, ⟨o0, o1⟩, ⟨f0, f1⟩, t0, t1⟩ := h2
      have hr0 := Int.emod_nonneg (o - f) (show p ≠ 0 by omega)
      have hr1 := Int.emod_lt_of_pos (o - f) (show 0 < p by omega)
      simp only [ring_Falls.j0, Bool.not_true, Bool.false_eq_true, if_false]
      rw [wrap_in (o - f) (by omega) (by omega), modulo_eq _ p (by omega) (by omega), Option.bind_some, wrap_in (f + (o - f) % p) (by omega) (by omega)]
      by_cases h3 : f + (o - f) % p ≥ t
      · rw [if_pos h3]
        by_cases h4 : t ≤ f
        · rw [if_pos h4]
        · rw [if_neg h4, up_nonpos _ p (by omega) (by omega) (by omega)]
      · rw [if_neg h3, if_neg (by omega), if_neg (by omega), wrap_in (t - (f + (o - f) % p)) (by omega) (by omega), wrap_in (t - (f + (o - f) % p) - 1) (by omega) (by omega), Int.tdiv_eq_ediv_of_nonneg (by omega), up_pos _ p (by omega) (by omega)]
        have hd0 : 0 ≤ (t - (f + (o - f) % p) - 1) / p := Int.ediv_nonneg (by omega) (by omega)
        have hd1 : (t - (f + (o - f) % p) - 1) / p ≤ t - (f + (o - f) % p) - 1 := Int.ediv_le_self _ (by omega)
        rw [wrap_in ((t - (f + (o - f) % p) - 1) / p) (by omega) (by omega), wrap_in _ (by omega) (by omega), show t - f - (o - f) % p - 1 = t - (f + (o - f) % p) - 1 by omega]
    · rw [decide_eq_false (fun h => h2 ⟨h p (by simp), h o (by simp), h f (by simp), h t (by simp)⟩), if_pos (.inr h2)]
      simp [ring_Falls.j0]
theorem refFalls_eq (k : Nat) (p o f t : Int) (hk : 10 < k) : rotaref13_Falls.f k p o f t = some (fallsOf p o f t) := by
  obtain ⟨k, rfl⟩ : ∃ m, k = m + 1 := ⟨k - 1, by omega⟩
  unfold rotaref13_Falls.f fallsOf
  rw [refSmall_eq, Option.bind_some, refSmall_eq, Option.bind_some, refSmall_eq, Option.bind_some, refSmall_eq, Option.bind_some]
  by_cases h2 : Small p ∧ Small o ∧ Small f ∧ Small t
  · rw [if_pos (decide_eq_true h2.1), if_pos (decide_eq_true h2.2.1), if_pos (decide_eq_true h2.2.2.1), if_pos (decide_eq_true h2.2.2.2)]
    by_cases h1 : p < 1
    · rw [decide_eq_true h1, if_pos (.inl h1)]; simp [rotaref13_Falls.j0]
    · rw [decide_eq_false h1, if_neg (by rintro (h | h); exact h1 h; exact h h2)]
      obtain ⟨⟨p0, p1⟩, ⟨o0, o1⟩, ⟨f0, f1⟩, t0, t1⟩ := h2
      simp only [rotaref13_Falls.j0, Bool.false_eq_true, if_false]
      by_cases h4 : t ≤ f
      · rw [if_pos h4, if_pos h4]
      · rw [if_neg h4, if_neg h4, wrap_in (t - o) (by omega) (by omega), refBelow_eq _ p (by omega) (by omega) (by omega), Option.bind_some, wrap_in (f - o) (by omega) (by omega), refBelow_eq _ p (by omega) (by omega) (by omega), Option.bind_some, up_mod o f t p (by omega)]
        have hr0 := Int.emod_nonneg (o - f) (show p ≠ 0 by omega)
        have hr1 := Int.emod_lt_of_pos (o - f) (show 0 < p by omega)
        have hb : 0 ≤ up (t - f - (o - f) % p) p ∧ up (t - f - (o - f) % p) p ≤ 4294967295 := by
          rcases Int.lt_or_le 0 (t - f - (o - f) % p) with hh | hh
          · rw [up_pos _ p (by omega) hh]
            have hd0 : 0 ≤ (t - f - (o - f) % p - 1) / p := Int.ediv_nonneg (by omega) (by omega)
            have hd1 : (t - f - (o - f) % p - 1) / p ≤ t - f - (o - f) % p - 1 := Int.ediv_le_self _ (by omega)
            omega
          · rw [up_nonpos _ p (by omega) (by omega) hh]; omega
        rw [wrap_in _ (by omega) (by omega)]
  · rw [if_pos (show p < 1 ∨ ¬ (Small p ∧ Small o ∧ Small f ∧ Small t) from .inr h2)]
    by_cases a1 : Small p
    · rw [if_pos (decide_eq_true a1)]
      by_cases a2 : Small o
      · rw [if_pos (decide_eq_true a2)]
        by_cases a3 : Small f
        · rw [if_pos (decide_eq_true a3)]
          by_cases a4 : Small t
          · exact absurd ⟨a1, a2, a3, a4⟩ h2
          · rw [if_neg (by simpa using a4)]; simp [rotaref13_Falls.j0]
        · rw [if_neg (by simpa using a3)]; simp [rotaref13_Falls.j0]
      · rw [if_neg (by simpa using a2)]; simp [rotaref13_Falls.j0]
    · rw [if_neg (by simpa using a1)]; simp [rotaref13_Falls.j0]
end Go.Proofs.Ythnpacnmghlkmaa
