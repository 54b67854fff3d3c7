/- The ring's numbers: what Place, Steps and Within answer, the program's and the document's, in plain numbers. -/
import Derived.Test.YthnpacnmghlkmaaPx3
namespace Go.Proofs.Ythnpacnmghlkmaa
open Go.RowKit Go.Proofs.Ythnpacnmghlkmaa.Px Go.Proofs.YthnpacnmghlkmaaW.PrintWords Go.Proofs.YthnpacnmghlkmaaW.PrintLast

theorem wrap_in (x : Int) (h0 : -9223372036854775808 ≤ x) (h1 : x ≤ 9223372036854775807) : wrap64 x = x := by unfold wrap64; omega
def RingOk (n : Int) : Prop := 1 ≤ n ∧ n ≤ 1048576
theorem may_nil (k : Nat) (n : Int) (hk : 2 ≤ k) : ring_may.f k n [] = some (if 1 ≤ n ∧ n ≤ 1048576 then 0 else 130) := by
  obtain ⟨k, rfl⟩ : ∃ m, k = m + 2 := ⟨k - 2, by omega⟩
  unfold ring_may.f
  by_cases h1 : n < 1
  · rw [if_pos h1, if_neg (by omega)]; simp [ring_may.j0]
  · rw [if_neg h1]
    by_cases h2 : n > 1048576
    · rw [decide_eq_true h2, if_neg (by omega)]; simp [ring_may.j0]
    · rw [decide_eq_false h2, if_pos (by omega)]; simp [ring_may.j0, ring_may.l0]
theorem tmod_emod (a n : Int) (hn : 1 ≤ n) : Int.tmod a n = a % n ∨ Int.tmod a n = a % n - n := by
  rcases Int.lt_or_le a 0 with h | h
  · by_cases hd : n ∣ a
    · left; rw [Int.tmod_eq_emod, if_pos (.inr hd)]; omega
    · right; rw [Int.tmod_eq_emod, if_neg (by simp [hd]; omega)]; omega
  · left; exact Int.tmod_eq_emod_of_nonneg h
theorem modulo_eq (a n : Int) (hn : 1 ≤ n) (hn2 : n ≤ 4611686018427387904) : ring_modulo.f a n = some (a % n) := by
  unfold ring_modulo.f
  have he := Int.emod_nonneg a (show n ≠ 0 by omega)
  have hl := Int.emod_lt_of_pos a (show 0 < n by omega)
  rw [if_neg (by omega)]
  congr 1
  rcases tmod_emod a n hn with h | h
  · rw [h, wrap_in _ (by omega) (by omega), Int.tmod_eq_emod_of_nonneg (by omega), Int.add_emod_right, Int.emod_emod_of_dvd _ (Int.dvd_refl n)]
  · rw [h, Int.sub_add_cancel, wrap_in _ (by omega) (by omega), Int.tmod_eq_emod_of_nonneg (by omega), Int.emod_emod_of_dvd _ (Int.dvd_refl n)]
theorem place_eq (k : Nat) (a n : Int) (hk : 2 ≤ k) : ring_Place.f k a n = some (if 1 ≤ n ∧ n ≤ 1048576 then (a % n, 0) else (0, 130)) := by
  unfold ring_Place.f
  rw [may_nil k n hk, Option.bind_some]
  by_cases h : 1 ≤ n ∧ n ≤ 1048576
  · rw [if_pos h, if_pos h, if_pos rfl, modulo_eq a n h.1 (by omega), Option.bind_some]
  · rw [if_neg h, if_neg h, if_neg (by decide)]
theorem ringSteps_eq (a b n : Int) (hn : 1 ≤ n) (hn2 : n ≤ 4611686018427387904) : ring_steps.f a b n = some ((b - a) % n) := by
  unfold ring_steps.f
  have h1 := Int.emod_nonneg a (show n ≠ 0 by omega)
  have h2 := Int.emod_lt_of_pos a (show 0 < n by omega)
  have h3 := Int.emod_nonneg b (show n ≠ 0 by omega)
  have h4 := Int.emod_lt_of_pos b (show 0 < n by omega)
  rw [modulo_eq b n hn hn2, Option.bind_some, modulo_eq a n hn hn2, Option.bind_some, wrap_in _ (by omega) (by omega), modulo_eq _ n hn hn2, Option.bind_some]
  rw [← Int.sub_emod]
theorem steps_eq (k : Nat) (a b n : Int) (hk : 2 ≤ k) : ring_Steps.f k a b n = some (if 1 ≤ n ∧ n ≤ 1048576 then ((b - a) % n, 0) else (0, 130)) := by
  unfold ring_Steps.f
  rw [may_nil k n hk, Option.bind_some]
  by_cases h : 1 ≤ n ∧ n ≤ 1048576
  · rw [if_pos h, if_pos h, if_pos rfl, ringSteps_eq a b n h.1 (by omega), Option.bind_some]
  · rw [if_neg h, if_neg h, if_neg (by decide)]
theorem within_eq (k : Nat) (a x b n : Int) (hk : 2 ≤ k) : ring_Within.f k a x b n = some (if 1 ≤ n ∧ n ≤ 1048576 then (decide ((x - a) % n ≤ (b - a) % n), 0) else (false, 130)) := by
  unfold ring_Within.f
  rw [may_nil k n hk, Option.bind_some]
  by_cases h : 1 ≤ n ∧ n ≤ 1048576
  · rw [if_pos h, if_pos h, if_pos rfl, ringSteps_eq a x n h.1 (by omega), Option.bind_some, ringSteps_eq a b n h.1 (by omega), Option.bind_some]
  · rw [if_neg h, if_neg h, if_neg (by decide)]
/-! The document's. -/
theorem refMay_nil (k : Nat) (n : Int) (hk : 2 ≤ k) : rotaref13_May.f k [] n = some (decide (1 ≤ n ∧ n ≤ 1048576)) := by
  obtain ⟨k, rfl⟩ : ∃ m, k = m + 2 := ⟨k - 2, by omega⟩
  unfold rotaref13_May.f
  by_cases h1 : n < 1
  · rw [if_pos h1, decide_eq_false (by omega)]; simp [rotaref13_May.j0]
  · rw [if_neg h1]
    by_cases h2 : n > 1048576
    · rw [decide_eq_true h2, decide_eq_false (by omega)]; simp [rotaref13_May.j0]
    · rw [decide_eq_false h2, decide_eq_true (by omega)]; simp [rotaref13_May.j0, rotaref13_May.l0]
theorem refPlace_eq (a n : Int) (hn : 1 ≤ n) (hn2 : n ≤ 4611686018427387904) : rotaref13_Place.f a n = some (a % n) := by
  unfold rotaref13_Place.f
  have he := Int.emod_nonneg a (show n ≠ 0 by omega)
  have hl := Int.emod_lt_of_pos a (show 0 < n by omega)
  rw [if_neg (by omega)]
  rcases tmod_emod a n hn with h | h
  · rw [h, if_neg (by omega)]
  · rw [h, if_pos (by omega), Int.sub_add_cancel, wrap_in _ (by omega) (by omega)]
theorem sub_mod (a b n : Int) (hn : 1 ≤ n) : (b - a) % n = if b % n < a % n then b % n + n - a % n else b % n - a % n := by
  have h1 := Int.emod_nonneg a (show n ≠ 0 by omega)
  have h2 := Int.emod_lt_of_pos a (show 0 < n by omega)
  have h3 := Int.emod_nonneg b (show n ≠ 0 by omega)
  have h4 := Int.emod_lt_of_pos b (show 0 < n by omega)
  rw [Int.sub_emod]
  split
  · rw [← Int.add_emod_right, Int.emod_eq_of_lt (by omega) (by omega)]; omega
  · rw [Int.emod_eq_of_lt (by omega) (by omega)]
theorem refSteps_eq (a b n : Int) (hn : 1 ≤ n) (hn2 : n ≤ 1048576) : rotaref13_Steps.f a b n = some ((b - a) % n) := by
  unfold rotaref13_Steps.f
  have h1 := Int.emod_nonneg a (show n ≠ 0 by omega)
  have h2 := Int.emod_lt_of_pos a (show 0 < n by omega)
  have h3 := Int.emod_nonneg b (show n ≠ 0 by omega)
  have h4 := Int.emod_lt_of_pos b (show 0 < n by omega)
  rw [refPlace_eq a n hn (by omega), Option.bind_some, refPlace_eq b n hn (by omega), Option.bind_some, sub_mod a b n hn]
  split
  · rw [wrap_in (b % n + n) (by omega) (by omega), wrap_in _ (by omega) (by omega)]
  · rw [wrap_in _ (by omega) (by omega)]
/-- One step at a time: from place 'at', the wanted one or the end. -/
theorem refWithin_loop (n en want : Int) (hn : 1 ≤ n) (hn2 : n ≤ 1048576) (he : 0 ≤ en ∧ en < n) (hw : 0 ≤ want ∧ want < n) : ∀ (d k : Nat) (i at_ : Int), 0 ≤ at_ → at_ < n → 0 ≤ i → n - i = d → d < k →
    ((want - at_) % n < n - i ∨ (en - at_) % n < n - i) → rotaref13_Within.l0 k n at_ en want i = some (decide ((want - at_) % n ≤ (en - at_) % n)) := by
  intro d
  induction d with
  | zero =>
    intro k i at_ h0 h1 hi hd hk hor
    have a1 := Int.emod_nonneg (want - at_) (show n ≠ 0 by omega)
    have a2 := Int.emod_nonneg (en - at_) (show n ≠ 0 by omega)
    omega
  | succ d ih =>
    intro k i at_ h0 h1 hi hd hk hor
    obtain ⟨k, rfl⟩ : ∃ m, k = m + 1 := ⟨k - 1, by omega⟩
    simp only [rotaref13_Within.l0]
    rw [if_pos (by omega)]
    have a1 := Int.emod_nonneg (want - at_) (show n ≠ 0 by omega)
    have a2 := Int.emod_nonneg (en - at_) (show n ≠ 0 by omega)
    have sw := sub_mod at_ want n hn
    have se := sub_mod at_ en n hn
    rw [Int.emod_eq_of_lt hw.1 hw.2, Int.emod_eq_of_lt h0 h1] at sw
    rw [Int.emod_eq_of_lt he.1 he.2, Int.emod_eq_of_lt h0 h1] at se
    by_cases h2 : at_ = want
    · rw [if_pos h2]
      congr 1
      symm
      rw [decide_eq_true_iff]
      rw [if_neg (by omega)] at sw
      omega
    · rw [if_neg h2]
      by_cases h3 : at_ = en
      · rw [if_pos h3]
        congr 1
        symm
        rw [decide_eq_false_iff_not]
        rw [if_neg (by omega)] at se
        split at sw <;> omega
      · rw [if_neg h3, wrap_in _ (by omega) (by omega), refPlace_eq _ n hn (by omega), Option.bind_some, wrap_in _ (by omega) (by omega)]
        have hp0 := Int.emod_nonneg (at_ + 1) (show n ≠ 0 by omega)
        have hp1 := Int.emod_lt_of_pos (at_ + 1) (show 0 < n by omega)
        have sw2 : (want - (at_ + 1) % n) % n = (want - at_) % n - 1 := by
          rw [Int.sub_emod_emod, sub_mod (at_ + 1) want n hn, Int.emod_eq_of_lt hw.1 hw.2]
          by_cases hz : at_ + 1 = n
          · rw [hz, Int.emod_self]; split at sw <;> split <;> omega
          · rw [Int.emod_eq_of_lt (by omega) (show at_ + 1 < n by omega)]; split at sw <;> split <;> omega
        have se2 : (en - (at_ + 1) % n) % n = (en - at_) % n - 1 := by
          rw [Int.sub_emod_emod, sub_mod (at_ + 1) en n hn, Int.emod_eq_of_lt he.1 he.2]
          by_cases hz : at_ + 1 = n
          · rw [hz, Int.emod_self]; split at se <;> split <;> omega
          · rw [Int.emod_eq_of_lt (by omega) (show at_ + 1 < n by omega)]; split at se <;> split <;> omega
        rw [ih k (i + 1) _ hp0 hp1 (by omega) (by omega) (by omega) (by omega), sw2, se2]
        congr 1
        rw [decide_eq_decide]; omega
theorem refWithin_eq (k : Nat) (a x b n : Int) (hn : 1 ≤ n) (hn2 : n ≤ 1048576) (hk : n < k) : rotaref13_Within.f k a x b n = some (decide ((x - a) % n ≤ (b - a) % n)) := by
  unfold rotaref13_Within.f
  rw [refPlace_eq a n hn (by omega), Option.bind_some, refPlace_eq b n hn (by omega), Option.bind_some, refPlace_eq x n hn (by omega), Option.bind_some]
  have hm := fun z : Int => And.intro (Int.emod_nonneg z (show n ≠ 0 by omega)) (Int.emod_lt_of_pos z (show 0 < n by omega))
  have hd := hm (x % n - a % n)
  rw [refWithin_loop n (b % n) (x % n) hn hn2 (hm b) (hm x) n.toNat k 0 (a % n) (hm a).1 (hm a).2 (by omega) (by omega) (by omega) (.inl (by omega))]
  rw [← Int.sub_emod, ← Int.sub_emod]
end Go.Proofs.Ythnpacnmghlkmaa
