/- Arcs, in plain Lean: what is covered, how long the gaps are, and that turning changes neither. -/
import Derived.Test.YthnpacnmghlkmaaCovered
namespace Go.Proofs.Ythnpacnmghlkmaa
open Go.RowKit Go.Proofs.Ythnpacnmghlkmaa.Px

def inArc (n : Int) (a : S52) (p : Int) : Bool := decide ((p - a.f0) % n < a.f1)
def cov (n : Int) (l : List S52) (p : Int) : Bool := l.any (fun a => inArc n a p)
theorem inArc_add (n : Int) (a : S52) (p : Int) : inArc n a (p + n) = inArc n a p := by
  unfold inArc
  rw [show p + n - a.f0 = p - a.f0 + n by omega, Int.add_emod_right]
theorem cov_add (n : Int) (l : List S52) (p : Int) : cov n l (p + n) = cov n l p := by
  unfold cov
  congr 1
  funext a
  exact inArc_add n a p
theorem inArc_mod (n : Int) (a : S52) (p : Int) : inArc n a (p % n) = inArc n a p := by
  unfold inArc
  rw [Int.emod_sub_emod]
theorem cov_mod (n : Int) (l : List S52) (p : Int) : cov n l (p % n) = cov n l p := by
  unfold cov
  congr 1
  funext a
  exact inArc_mod n a p

theorem hasAt_set (has : List Bool) (q : Nat) (hq : q < has.length) (p : Int) (hp : 0 ≤ p) : hasAt (has.set q true) p = (decide ((q : Int) = p) || hasAt has p) := by
  obtain ⟨m, rfl⟩ : ∃ m : Nat, p = m := ⟨p.toNat, by omega⟩
  unfold hasAt
  simp only [Int.toNat_natCast, List.getD_eq_getElem?_getD, List.getElem?_set]
  by_cases h : q = m
  · subst h; simp [hq]
  · have : ¬ ((q : Int) = (m : Int)) := by omega
    simp [h, this]
theorem hasAt_markedBy {n : Int} (l : List (PL n)) : ∀ (has : List Bool), has.length = n.toNat → ∀ (p : Int), 0 ≤ p → hasAt (markedBy has l) p = (l.any (fun q => decide (q.1 = p)) || hasAt has p) := by
  induction l with
  | nil => intro has _ p _; simp [markedBy]
  | cons q l ih =>
    intro has hl p hp
    have hq0 := q.2.1
    have hq1 := q.2.2
    have := ih (has.set q.1.toNat true) (by simpa using hl) p hp
    rw [show markedBy has (q :: l) = markedBy (has.set q.1.toNat true) l from rfl, this, hasAt_set _ _ (by omega) p hp, show ((q.1.toNat : Nat) : Int) = q.1 by omega, List.any_cons]
    cases l.any (fun q => decide (q.1 = p)) <;> cases decide (q.1 = p) <;> simp
theorem any_upto (n : Int) (hn : 1 ≤ n) (a : S52) (h1 : 0 ≤ a.f1) (p : Int) (hp : 0 ≤ p) (hpn : p < n) : (upto (placeAt a.f0 n hn) a.f1.toNat).any (fun q => decide (q.1 = p)) = inArc n a p := by
  rw [Bool.eq_iff_iff, List.any_eq_true]
  unfold inArc
  rw [decide_eq_true_iff]
  constructor
  · rintro ⟨q, hq, he⟩
    rw [decide_eq_true_iff] at he
    simp only [upto, List.mem_map, List.mem_range] at hq
    obtain ⟨i, hi, rfl⟩ := hq
    have : (placeAt a.f0 n hn i).1 = (a.f0 + i) % n := rfl
    rw [this] at he
    rw [← he, Int.emod_sub_emod, show a.f0 + (i : Int) - a.f0 = i by omega]
    by_cases hin : (i : Int) < n
    · rw [Int.emod_eq_of_lt (by omega) hin]; omega
    · have := Int.emod_lt_of_pos (i : Int) (b := n) (by omega); omega
  · intro h
    have h0 := Int.emod_nonneg (p - a.f0) (b := n) (by omega)
    refine ⟨placeAt a.f0 n hn ((p - a.f0) % n).toNat, ?_, ?_⟩
    · simp only [upto, List.mem_map, List.mem_range]
      exact ⟨_, by omega, rfl⟩
    · rw [decide_eq_true_iff]
      show (a.f0 + ((((p - a.f0) % n).toNat : Nat) : Int)) % n = p
      rw [show ((((p - a.f0) % n).toNat : Nat) : Int) = (p - a.f0) % n by omega, Int.add_emod_emod, show a.f0 + (p - a.f0) = p by omega]
      exact Int.emod_eq_of_lt hp hpn
theorem hasAt_takenOf (n : Int) (hn : 1 ≤ n) (l : List S52) : ∀ (has : List Bool), has.length = n.toNat → (∀ a ∈ l, 0 ≤ a.f1) → ∀ (p : Int), 0 ≤ p → p < n → hasAt (takenOf n hn has l) p = (cov n l p || hasAt has p) := by
  induction l with
  | nil => intro has _ _ p _ _; simp [takenOf, cov]
  | cons a l ih =>
    intro has hl ha p hp hpn
    rw [show takenOf n hn has (a :: l) = takenOf n hn (markedBy has (upto (placeAt a.f0 n hn) a.f1.toNat)) l from rfl, ih _ ((markedBy_length _ _).trans hl) (fun b hb => ha b (List.mem_cons_of_mem _ hb)) p hp hpn, hasAt_markedBy _ _ hl p hp, any_upto n hn a (ha a (by simp)) p hp hpn]
    simp only [cov, List.any_cons]
    cases inArc n a p <;> cases l.any (fun a => inArc n a p) <;> simp
theorem has_cov (n : Int) (hn : 1 ≤ n) (l : List S52) (hl : ∀ a ∈ l, 0 ≤ a.f1) (p : Int) (hp : 0 ≤ p) (hpn : p < n) : hasAt (takenOf n hn (List.replicate n.toNat false) l) p = cov n l p := by
  rw [hasAt_takenOf n hn l _ (by simp) hl p hp hpn]
  have : hasAt (List.replicate n.toNat false) p = false := by
    unfold hasAt
    simp [List.getD_eq_getElem?_getD, List.getElem?_replicate]
    split <;> rfl
  rw [this, Bool.or_false]

/-! Sums -/
def sumTo (f : Nat → Int) : Nat → Int
  | 0 => 0
  | k + 1 => sumTo f k + f k
theorem sumTo_shift (f : Nat → Int) (k : Nat) : sumTo f (k + 1) = f 0 + sumTo (fun i => f (i + 1)) k := by
  induction k with
  | zero => simp [sumTo]
  | succ k ih => rw [sumTo, ih, sumTo]; omega
theorem sumTo_congr (f g : Nat → Int) (k : Nat) (h : ∀ i, i < k → f i = g i) : sumTo f k = sumTo g k := by
  induction k with
  | zero => rfl
  | succ k ih => rw [sumTo, sumTo, ih (fun i hi => h i (by omega)), h k (by omega)]
theorem sumTo_turn1 (g : Int → Int) (N : Nat) (hN : 1 ≤ N) (hg : ∀ x, g (x + N) = g x) : sumTo (fun i => g (i - 1)) N = sumTo (fun i => g i) N := by
  obtain ⟨k, rfl⟩ : ∃ k, N = k + 1 := ⟨N - 1, by omega⟩
  rw [sumTo_shift, sumTo, sumTo_congr (fun i => g (((i + 1 : Nat) : Int) - 1)) (fun i => g i) k (fun i _ => by congr 1; omega)]
  have := hg (-1)
  rw [show (-1 : Int) + ((k + 1 : Nat) : Int) = k by omega] at this
  rw [show ((0 : Nat) : Int) - 1 = -1 by omega, ← this]
  omega
theorem sumTo_turn (g : Int → Int) (N : Nat) (hN : 1 ≤ N) (hg : ∀ x, g (x + N) = g x) (s : Nat) : sumTo (fun i => g (i - s)) N = sumTo (fun i => g i) N := by
  induction s with
  | zero => exact sumTo_congr _ _ _ (fun i _ => by congr 1 <;> omega)
  | succ s ih =>
    rw [← ih, ← sumTo_turn1 (fun x => g (x - s)) N hN (fun x => by rw [show x + (N : Int) - s = x - s + N by omega]; exact hg _)]
    exact sumTo_congr _ _ _ (fun i _ => by congr 1; omega)

theorem countOf_sum (has : List Bool) : countOf has = sumTo (fun i => if hasAt has i = true then 1 else 0) has.length := by
  induction has with
  | nil => rfl
  | cons b l ih =>
    rw [List.length_cons, sumTo_shift]
    have h0 : hasAt (b :: l) ((0 : Nat) : Int) = b := rfl
    have h1 : sumTo (fun i => if hasAt (b :: l) ((i + 1 : Nat) : Int) = true then 1 else 0) l.length = sumTo (fun i => if hasAt l i = true then 1 else 0) l.length :=
      sumTo_congr _ _ _ (fun i _ => by
        have : hasAt (b :: l) ((i + 1 : Nat) : Int) = hasAt l i := by simp [hasAt, show ((i : Int) + 1).toNat = i + 1 by omega]
        rw [this])
    rw [h1, ← ih, h0]
    unfold countOf
    cases b
    · simp
    · simp; omega

/-! Gaps -/
def run (C : Int → Bool) (i : Int) : Nat → Nat
  | 0 => 0
  | k + 1 => if C i = true then 0 else 1 + run C (i + 1) k
theorem run_congr (C D : Int → Bool) (h : ∀ x, C x = D x) (i : Int) (k : Nat) : run C i k = run D i k := by
  rw [show C = D from funext h]
theorem run_shift (C : Int → Bool) (s : Int) (k : Nat) : ∀ i, run (fun x => C (x - s)) i k = run C (i - s) k := by
  induction k with
  | zero => intro i; rfl
  | succ k ih => intro i; simp only [run]; rw [ih, show i + 1 - s = i - s + 1 by omega]
theorem run_le (C : Int → Bool) (k : Nat) : ∀ i, run C i k ≤ k := by
  induction k with
  | zero => intro i; exact Nat.le_refl _
  | succ k ih => intro i; simp only [run]; have := ih (i + 1); split <;> omega
theorem run_upto {α : Type} (C : Int → Bool) (f : Nat → α) (p : α → Bool) (k : Nat) : ∀ (j : Nat) (i : Int), (∀ m, j ≤ m → p (f m) = !C (i + (m - j : Nat))) → (((List.range' j k).map f).takeWhile p).length = run C i k := by
  induction k with
  | zero => intro j i _; rfl
  | succ k ih =>
    intro j i h
    rw [List.range'_succ, List.map_cons, List.takeWhile_cons]
    have h0 := h j (Nat.le_refl _)
    rw [Nat.sub_self] at h0
    have e0 : C (i + ((0 : Nat) : Int)) = C i := by congr 1; omega
    rw [e0] at h0
    simp only [run]
    by_cases hc : C i = true
    · rw [h0, hc]; simp
    · rw [h0, Bool.not_eq_true] at *
      rw [hc, if_pos (by rfl), if_neg (by simp), List.length_cons, ih (j + 1) (i + 1) (fun m hm => by rw [h m (by omega)]; congr 2; omega)]
      omega
theorem gapLen_run (n : Int) (hn : 1 ≤ n) (has : List Bool) (C : Int → Bool) (hC : ∀ p, 0 ≤ p → p < n → hasAt has p = C p) (hper : ∀ x, C (x % n) = C x) (i : Int) : gapLen n hn has i = run C i n.toNat := by
  unfold gapLen upto
  rw [List.range_eq_range', run_upto C _ _ n.toNat 0 i (fun m _ => by
    show (!hasAt has ((i + m) % n)) = _
    rw [hC _ (Int.emod_nonneg _ (by omega)) (Int.emod_lt_of_pos _ (by omega)), hper, Nat.sub_zero])]
/-- Is there a gap's first place? -/
def gapAt (C : Int → Bool) (i : Int) : Bool := !C i && C (i - 1)
theorem gapStep_at (n : Int) (hn : 1 ≤ n) (has : List Bool) (C : Int → Bool) (hC : ∀ p, 0 ≤ p → p < n → hasAt has p = C p) (hper : ∀ x, C (x % n) = C x) (i : Int) (h0 : 0 ≤ i) (h1 : i < n) : gapStep n hn has i = if gapAt C i = true then [⟨i, run C i n.toNat⟩] else [] := by
  unfold gapStep gapAt
  rw [hC i h0 h1, hC _ (Int.emod_nonneg _ (by omega)) (Int.emod_lt_of_pos _ (by omega)), hper, gapLen_run n hn has C hC hper]
  cases C i <;> cases C (i - 1) <;> simp
def sumOf (f : S52 → Int) : List S52 → Int
  | [] => 0
  | a :: l => f a + sumOf f l
theorem sumOf_append (f : S52 → Int) (l m : List S52) : sumOf f (l ++ m) = sumOf f l + sumOf f m := by
  induction l with
  | nil => simp [sumOf]
  | cons a l ih => simp only [List.cons_append, sumOf, ih]; omega
theorem gapsTo_sum (n : Int) (hn : 1 ≤ n) (has : List Bool) (C : Int → Bool) (hC : ∀ p, 0 ≤ p → p < n → hasAt has p = C p) (hper : ∀ x, C (x % n) = C x) (f : Int → Int) (k : Nat) (hk : (k : Int) ≤ n) : sumOf (fun a => f a.f1) (gapsTo n hn has k) = sumTo (fun i => if gapAt C i = true then f (run C i n.toNat) else 0) k := by
  induction k with
  | zero => rfl
  | succ k ih =>
    rw [gapsTo, sumOf_append, sumTo, ih (by omega), gapStep_at n hn has C hC hper k (by omega) (by omega)]
    split <;> simp [sumOf]
theorem length_sumOf (l : List S52) : (l.length : Int) = sumOf (fun _ => 1) l := by
  induction l with
  | nil => rfl
  | cons a l ih => rw [List.length_cons, sumOf, ← ih]; omega
/-! What is covered, as a sum. -/
theorem coveredOf_sum (n : Int) (hn : 1 ≤ n) (l : List S52) (hl : ∀ a ∈ l, 0 ≤ a.f1) : coveredOf n l = sumTo (fun i => if cov n l i = true then 1 else 0) n.toNat := by
  unfold coveredOf
  rw [dif_pos hn, countOf_sum, takenOf_length, List.length_replicate]
  exact sumTo_congr _ _ _ (fun i hi => by rw [has_cov n hn l hl i (by omega) (by omega)])
theorem sumTo_turned (n : Int) (hn : 1 ≤ n) (g : Int → Int) (hg : ∀ x, g (x % n) = g x) (s : Int) (hs : 0 ≤ s) : sumTo (fun i => g (i - s)) n.toNat = sumTo (fun i => g i) n.toNat := by
  obtain ⟨m, rfl⟩ : ∃ m : Nat, s = m := ⟨s.toNat, by omega⟩
  exact sumTo_turn g n.toNat (by omega) (fun x => by rw [← hg (x + _), ← hg x, show (n.toNat : Int) = n by omega, Int.add_emod_right]) m
end Go.Proofs.Ythnpacnmghlkmaa
