/- May, Covered, Gaps, Meet: what they answer, in plain Lean. -/
import Derived.Test.YthnpacnmghlkmaaArcsPlain
import Derived.Test.YthnpacnmghlkmaaPlain
import Derived.Test.YthnpacnmghlkmaaPx6
namespace Go.Proofs.Ythnpacnmghlkmaa
open Go.RowKit Go.Proofs.Ythnpacnmghlkmaa.Px Go.Proofs.YthnpacnmghlkmaaW.PrintWords

theorem leO_le {α : Type} {f : Nat → Option α} (hf : ∀ k, LeO (f k) (f (k + 1))) {j k : Nat} (h : j ≤ k) {r : α} (hr : f j = some r) : f k = some r := by
  obtain ⟨d, rfl⟩ : ∃ d, k = j + d := ⟨k - j, by omega⟩
  induction d with
  | zero => exact hr
  | succ d ih => exact hf _ _ (ih (by omega))
theorem alive_true {k : Nat} (hk : 300 ≤ k) : rotalaw13_alive.f k = some true := leO_le rotalaw13_alive.mono hk (by decide +kernel)

/-! May, of any arcs -/
def arcB (n : Int) (a : S52) : Bool := decide (0 ≤ a.f0) && decide (a.f0 < n) && decide (0 ≤ a.f1) && decide (a.f1 ≤ n)
theorem arcB_ok {n : Int} {a : S52} : arcB n a = true ↔ ArcOk n a := by simp [arcB, ArcOk, and_assoc]
def mayB (n : Int) (l : List S52) : Bool := decide (1 ≤ n) && decide (n ≤ 1048576) && l.all (arcB n)
theorem drop_rd {l : List S52} {x : Nat} (h : x < l.length) : l.drop x = rd_T52 l x :: l.drop (x + 1) := by
  rw [List.drop_eq_getElem_cons h]
  congr 1
  simp [rd_T52, List.getD, h]
theorem may_l0_eq (n : Int) (l : List S52) (hl : l.length ≤ 35184372088832) : ∀ (d k x : Nat), l.length - x = d → x ≤ l.length → d < k → ring_may.l0 k n l (l.length : Int) x = some (if (l.drop x).all (arcB n) = true then 0 else 130) := by
  intro d
  induction d with
  | zero =>
    intro k x h hx hk
    obtain ⟨k, rfl⟩ : ∃ j, k = j + 1 := ⟨k - 1, by omega⟩
    simp only [ring_may.l0]
    rw [if_neg (by omega), List.drop_of_length_le (by omega)]
    rfl
  | succ d ih =>
    intro k x h hx hk
    obtain ⟨k, rfl⟩ : ∃ j, k = j + 1 := ⟨k - 1, by omega⟩
    have := ih k (x + 1) (by omega) (by omega) (by omega)
    simp only [ring_may.l0]
    rw [if_pos (by omega), if_pos (by omega), if_pos (by omega), wrap_in _ (by omega) (by omega), show (x : Int) + 1 = ((x + 1 : Nat) : Int) by omega, this, drop_rd (x := x) (l := l) (by omega), List.all_cons]
    generalize rd_T52 l x = a
    generalize (l.drop (x + 1)).all (arcB n) = b
    unfold arcB
    by_cases h1 : a.f0 < 0
    · rw [if_pos h1]; simp [show ¬ 0 ≤ a.f0 by omega]
    rw [if_neg h1]
    by_cases h2 : a.f0 ≥ n
    · rw [if_pos h2]; simp [show ¬ a.f0 < n by omega]
    rw [if_neg h2]
    by_cases h3 : a.f1 < 0
    · rw [if_pos h3]; simp [show ¬ 0 ≤ a.f1 by omega]
    rw [if_neg h3]
    by_cases h4 : a.f1 > n
    · rw [if_pos h4]; simp [show ¬ a.f1 ≤ n by omega]
    rw [if_neg h4]
    simp [show 0 ≤ a.f0 by omega, show a.f0 < n by omega, show 0 ≤ a.f1 by omega, show a.f1 ≤ n by omega]
theorem may_eq (k : Nat) (n : Int) (l : List S52) (hl : l.length ≤ 35184372088832) (hk : l.length + 2 ≤ k) : ring_may.f k n l = some (if mayB n l = true then 0 else 130) := by
  obtain ⟨k, rfl⟩ : ∃ j, k = j + 1 := ⟨k - 1, by omega⟩
  have h := may_l0_eq n l hl l.length k 0 (by omega) (by omega) (by omega)
  rw [List.drop_zero] at h
  unfold ring_may.f mayB
  by_cases h1 : n < 1
  · rw [if_pos h1]; simp [ring_may.j0, show ¬ 1 ≤ n by omega]
  · rw [if_neg h1]
    simp only [ring_may.j0]
    by_cases h2 : n > 1048576
    · rw [if_pos (by simpa using h2)]; simp [show ¬ n ≤ 1048576 by omega]
    · rw [if_neg (by simpa using h2), show (0 : Int) = ((0 : Nat) : Int) by rfl, h]
      simp [show 1 ≤ n by omega, show n ≤ 1048576 by omega]
theorem mayB_ok {n : Int} {l : List S52} (h : mayB n l = true) : 1 ≤ n ∧ n ≤ 1048576 ∧ ∀ a ∈ l, ArcOk n a := by
  simp only [mayB, Bool.and_eq_true, decide_eq_true_iff, List.all_eq_true] at h
  exact ⟨h.1.1, h.1.2, fun a ha => arcB_ok.1 (h.2 a ha)⟩
theorem mayB_of {n : Int} {l : List S52} (h1 : 1 ≤ n) (h2 : n ≤ 1048576) (h : ∀ a ∈ l, ArcOk n a) : mayB n l = true := by
  simp only [mayB, Bool.and_eq_true, decide_eq_true_iff, List.all_eq_true]
  exact ⟨⟨h1, h2⟩, fun a ha => arcB_ok.2 (h a ha)⟩
theorem covered_eq (k : Nat) (n : Int) (l : List S52) (hl : l.length ≤ 35184372088832) (hk : l.length + 2 ≤ k) : ring_Covered.f k l n = some (if mayB n l = true then (coveredOf n l, 0) else (0, 130)) := by
  unfold ring_Covered.f
  rw [if_pos hl, may_eq k n l hl hk, Option.bind_some]
  split <;> rfl
theorem gaps_eq (k : Nat) (n : Int) (l : List S52) (hl : l.length ≤ 35184372088832) (hk : l.length + 2 ≤ k) : ring_Gaps.f k l n = some (if mayB n l = true then (gapsOf n l, 0) else ([], 130)) := by
  unfold ring_Gaps.f
  rw [if_pos hl, may_eq k n l hl hk, Option.bind_some]
  split <;> rfl
def meetB (n : Int) (a b : S52) : Bool := decide (0 < a.f1) && (decide (0 < b.f1) && (decide ((b.f0 - a.f0) % n < a.f1) || decide ((a.f0 - b.f0) % n < b.f1)))
theorem meet_eq (k : Nat) (n : Int) (a b : S52) (hn : 1 ≤ n) (hn2 : n ≤ 1048576) (ha : ArcOk n a) (hb : ArcOk n b) (hk : 4 ≤ k) : ring_Meet.f k a.f0 a.f1 b.f0 b.f1 n = some (meetB n a b, 0) := by
  unfold ring_Meet.f meetB
  rw [may_eq k n _ (by simp) (by simpa using hk), if_pos (mayB_of hn hn2 (by intro x hx; simp at hx; rcases hx with rfl | rfl <;> assumption)), Option.bind_some, if_pos rfl]
  by_cases h1 : a.f1 > 0
  · rw [if_pos h1]
    by_cases h2 : b.f1 > 0
    · rw [if_pos h2, ringSteps_eq _ _ _ hn (by omega), Option.bind_some, ringSteps_eq _ _ _ hn (by omega), Option.bind_some]
      by_cases h3 : (b.f0 - a.f0) % n < a.f1
      · rw [if_pos h3]; simp [h1, h2, h3]
      · rw [if_neg h3]; simp [h1, h2, h3]
    · rw [if_neg h2]; simp [h2]
  · rw [if_neg h1]; simp [h1]
end Go.Proofs.Ythnpacnmghlkmaa
