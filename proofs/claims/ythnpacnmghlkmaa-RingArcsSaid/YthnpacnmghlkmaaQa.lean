/- Functions of the program as Lean functions, each with the proof that the Go code comes to just its answers (written by a program of this session's over the kit's print). -/
import Derived.Test.YthnpacnmghlkmaaPx0
import Derived.Test.YthnpacnmghlkmaaPx1
import Derived.Test.YthnpacnmghlkmaaPx2
import Derived.Test.YthnpacnmghlkmaaPx3
import Derived.Test.YthnpacnmghlkmaaPx4
import Derived.Test.YthnpacnmghlkmaaPx5
import Derived.Test.YthnpacnmghlkmaaPx6
import Derived.Test.YthnpacnmghlkmaaPx7
import Derived.Test.YthnpacnmghlkmaaPx8
import Derived.Test.YthnpacnmghlkmaaCovered
namespace Go.Proofs.Ythnpacnmghlkmaa.Qa
open Go.RowKit Go.Proofs.YthnpacnmghlkmaaW.PrintWords Go.Proofs.YthnpacnmghlkmaaW.PrintLast Go.Proofs.YthnpacnmghlkmaaW.PrintMore Go.Proofs.Ythnpacnmghlkmaa Go.Proofs.Ythnpacnmghlkmaa.Px
attribute [local go_sem] max2_int min2_int max_two min_two max_three min_three max_four min_four   -- for this text's walks alone
set_option linter.unusedVariables false
set_option linter.unusedSimpArgs false

attribute [local go_sem high] eqA52
/-! ### rotalaw13_RingArcs: function 8 -/
mutual
def rotalaw13_RingArcs.j0 : Nat → List (S52) → Int → Int → Bool → Option (Bool)
  | 0, _, _, _, _ => none
  | k + 1, x0, x1, x2, x36 => if x36 = true then (some true) else ((rotalaw13_twin.f x0).bind fun t157 => ((rotaref13_May.f k x0 x2).bind fun t160 => (if 0 ≤ (x0.length : Int) then (if (x0.length : Int) ≤ (t157.length : Int) then ((ring_Covered.f k (t157.take ((x0.length : Int) : Int).toNat) x2).bind fun bt165 => ((ring_Gaps.f k (t157.take ((x0.length : Int) : Int).toNat) x2).bind fun bt171 => ((ring_Fit.f k (t157.take ((x0.length : Int) : Int).toNat) x1 x2).bind fun bt179 => (rotalaw13_RingArcs.l0 k x0 x1 x2 t157 t160 bt165.1 bt165.2 bt171.1 bt171.2 bt179.1 bt179.2 (x0.length : Int) 0)))) else (none)) else (none))))
def rotalaw13_RingArcs.l0 : Nat → List (S52) → Int → Int → List (S52) → Bool → Int → Int → List (S52) → Int → Int → Int → Int → Int → Option (Bool)
  | 0, _, _, _, _, _, _, _, _, _, _, _, _, _ => none
  | k + 1, x0, x1, x2, x7, x8, x9, x10, x11, x12, x13, x14, x71, x72 => if x72 < x71 then (if 0 ≤ x72 then (if x72 < (x7.length : Int) then (if x72 < (x0.length : Int) then (if (!(((rd_T52 x7 x72).f0) == ((rd_T52 x0 x72).f0)) || (!(((rd_T52 x7 x72).f1) == ((rd_T52 x0 x72).f1)))) = true then (some false) else (rotalaw13_RingArcs.l0 k x0 x1 x2 x7 x8 x9 x10 x11 x12 x13 x14 x71 (wrap64 (x72 + 1)))) else (none)) else (none)) else (none)) else (if x8 = true then ((rotaref13_Taken.f k x0 x2).bind fun t184 => (rotalaw13_RingArcs.l1 k x0 x1 x2 x7 x9 x10 x11 x12 x13 x14 0 t184 (t184.length : Int) 0)) else (if x10 = 130 then (if x12 = 130 then (if x14 = 130 then (if 0 ≤ (x0.length : Int) then (if (x0.length : Int) < (x7.length : Int) then (some (((rd_T52 x7 (x0.length : Int)).f0) == 77)) else (none)) else (none)) else (some false)) else (some false)) else (some false)))
def rotalaw13_RingArcs.l1 : Nat → List (S52) → Int → Int → List (S52) → Int → Int → List (S52) → Int → Int → Int → Int → List Int → Int → Int → Option (Bool)
  | 0, _, _, _, _, _, _, _, _, _, _, _, _, _, _ => none
  | k + 1, x0, x1, x2, x7, x9, x10, x11, x12, x13, x14, x16, x17, x110, x111 => if x111 < x110 then (if 0 ≤ x111 then (if x111 < (x17.length : Int) then (if (rd x17 x111) > 0 then (rotalaw13_RingArcs.l1 k x0 x1 x2 x7 x9 x10 x11 x12 x13 x14 (wrap64 (x16 + 1)) x17 x110 (wrap64 (x111 + 1))) else (rotalaw13_RingArcs.l1 k x0 x1 x2 x7 x9 x10 x11 x12 x13 x14 x16 x17 x110 (wrap64 (x111 + 1)))) else (none)) else (none)) else ((rotaref13_Fit.f k x0 x1 x2).bind fun t188 => (if t188 < 0 then (if x14 = 2 then (if t188 ≥ 0 then (if x14 = 0 then (rotalaw13_RingArcs.j3 k x0 x2 x7 x9 x10 x11 x12 x16 (x13 != t188)) else (rotalaw13_RingArcs.j3 k x0 x2 x7 x9 x10 x11 x12 x16 true)) else (rotalaw13_RingArcs.j3 k x0 x2 x7 x9 x10 x11 x12 x16 false)) else (rotalaw13_RingArcs.j3 k x0 x2 x7 x9 x10 x11 x12 x16 true)) else (if t188 ≥ 0 then (if x14 = 0 then (rotalaw13_RingArcs.j3 k x0 x2 x7 x9 x10 x11 x12 x16 (x13 != t188)) else (rotalaw13_RingArcs.j3 k x0 x2 x7 x9 x10 x11 x12 x16 true)) else (rotalaw13_RingArcs.j3 k x0 x2 x7 x9 x10 x11 x12 x16 false))))
def rotalaw13_RingArcs.j3 : Nat → List (S52) → Int → List (S52) → Int → Int → List (S52) → Int → Int → Bool → Option (Bool)
  | 0, _, _, _, _, _, _, _, _, _ => none
  | k + 1, x0, x2, x7, x9, x10, x11, x12, x16, x144 => if x144 = true then (some false) else (rotalaw13_RingArcs.l2 k x0 x2 x7 x9 x10 x11 x12 x16 1)
def rotalaw13_RingArcs.l2 : Nat → List (S52) → Int → List (S52) → Int → Int → List (S52) → Int → Int → Int → Option (Bool)
  | 0, _, _, _, _, _, _, _, _, _ => none
  | k + 1, x0, x2, x7, x9, x10, x11, x12, x16, x20 => if x20 < (x0.length : Int) then (if 0 < (x0.length : Int) then (if 0 ≤ x20 then ((ring_Meet.f k ((rd_T52 x0 0).f0) ((rd_T52 x0 0).f1) ((rd_T52 x0 x20).f0) ((rd_T52 x0 x20).f1) x2).bind fun bt196 => ((rotaref13_Taken.f k (([(⟨(rd_T52 x0 0).f0, (rd_T52 x0 0).f1⟩ : S52), (⟨(rd_T52 x0 x20).f0, (rd_T52 x0 x20).f1⟩ : S52)] : List (S52))) x2).bind fun t203 => (rotalaw13_RingArcs.l3 k x0 x2 x7 x9 x10 x11 x12 x16 x20 bt196.1 bt196.2 t203 false (t203.length : Int) 0))) else (none)) else (none)) else (if x10 = 0 then (if x12 = 0 then (if x9 = x16 then ((rotaref13_Gaps.f k x0 x2).bind fun t189 => ((rotaref13_Same.f k x11 t189).bind fun t192 => (if t192 = true then (if 0 ≤ (x0.length : Int) then (if (x0.length : Int) < (x7.length : Int) then (some (((rd_T52 x7 (x0.length : Int)).f0) == 77)) else (none)) else (none)) else (some false)))) else (some false)) else (some false)) else (some false))
def rotalaw13_RingArcs.l3 : Nat → List (S52) → Int → List (S52) → Int → Int → List (S52) → Int → Int → Int → Bool → Int → List Int → Bool → Int → Int → Option (Bool)
  | 0, _, _, _, _, _, _, _, _, _, _, _, _, _, _, _ => none
  | k + 1, x0, x2, x7, x9, x10, x11, x12, x16, x20, x21, x22, x23, x24, x174, x175 => if x175 < x174 then (if x24 = true then (rotalaw13_RingArcs.l3 k x0 x2 x7 x9 x10 x11 x12 x16 x20 x21 x22 x23 true x174 (wrap64 (x175 + 1))) else (if 0 ≤ x175 then (if x175 < (x23.length : Int) then (rotalaw13_RingArcs.l3 k x0 x2 x7 x9 x10 x11 x12 x16 x20 x21 x22 x23 (decide ((rd x23 x175) > 1)) x174 (wrap64 (x175 + 1))) else (none)) else (none))) else (if x22 = 0 then (if (x21 != x24) = true then (some false) else (rotalaw13_RingArcs.l2 k x0 x2 x7 x9 x10 x11 x12 x16 (wrap64 (x20 + 1)))) else (some false))
end
def rotalaw13_RingArcs.f (k : Nat) (l0 : List (S52)) (a1 : Int) (a2 : Int) : Option (Bool) := if a2 > 1000 then (if a2 ≤ 1048576 then (rotalaw13_RingArcs.j0 k l0 a1 a2 true) else (rotalaw13_RingArcs.j0 k l0 a1 a2 (decide ((l0.length : Int) > 20)))) else (rotalaw13_RingArcs.j0 k l0 a1 a2 (decide ((l0.length : Int) > 20)))
theorem rotalaw13_RingArcs.mono_l : ∀ k, (∀ y0 y1 y2 y3, LeO (rotalaw13_RingArcs.j0 k y0 y1 y2 y3) (rotalaw13_RingArcs.j0 (k + 1) y0 y1 y2 y3)) ∧ (∀ y0 y1 y2 y3 y4 y5 y6 y7 y8 y9 y10 y11 y12, LeO (rotalaw13_RingArcs.l0 k y0 y1 y2 y3 y4 y5 y6 y7 y8 y9 y10 y11 y12) (rotalaw13_RingArcs.l0 (k + 1) y0 y1 y2 y3 y4 y5 y6 y7 y8 y9 y10 y11 y12)) ∧ (∀ y0 y1 y2 y3 y4 y5 y6 y7 y8 y9 y10 y11 y12 y13, LeO (rotalaw13_RingArcs.l1 k y0 y1 y2 y3 y4 y5 y6 y7 y8 y9 y10 y11 y12 y13) (rotalaw13_RingArcs.l1 (k + 1) y0 y1 y2 y3 y4 y5 y6 y7 y8 y9 y10 y11 y12 y13)) ∧ (∀ y0 y1 y2 y3 y4 y5 y6 y7 y8, LeO (rotalaw13_RingArcs.j3 k y0 y1 y2 y3 y4 y5 y6 y7 y8) (rotalaw13_RingArcs.j3 (k + 1) y0 y1 y2 y3 y4 y5 y6 y7 y8)) ∧ (∀ y0 y1 y2 y3 y4 y5 y6 y7 y8, LeO (rotalaw13_RingArcs.l2 k y0 y1 y2 y3 y4 y5 y6 y7 y8) (rotalaw13_RingArcs.l2 (k + 1) y0 y1 y2 y3 y4 y5 y6 y7 y8)) ∧ (∀ y0 y1 y2 y3 y4 y5 y6 y7 y8 y9 y10 y11 y12 y13 y14, LeO (rotalaw13_RingArcs.l3 k y0 y1 y2 y3 y4 y5 y6 y7 y8 y9 y10 y11 y12 y13 y14) (rotalaw13_RingArcs.l3 (k + 1) y0 y1 y2 y3 y4 y5 y6 y7 y8 y9 y10 y11 y12 y13 y14))
  | 0 => ⟨fun _ _ _ _ r h => by simp [rotalaw13_RingArcs.j0] at h, fun _ _ _ _ _ _ _ _ _ _ _ _ _ r h => by simp [rotalaw13_RingArcs.l0] at h, fun _ _ _ _ _ _ _ _ _ _ _ _ _ _ r h => by simp [rotalaw13_RingArcs.l1] at h, fun _ _ _ _ _ _ _ _ _ r h => by simp [rotalaw13_RingArcs.j3] at h, fun _ _ _ _ _ _ _ _ _ r h => by simp [rotalaw13_RingArcs.l2] at h, fun _ _ _ _ _ _ _ _ _ _ _ _ _ _ _ r h => by simp [rotalaw13_RingArcs.l3] at h⟩
  | k + 1 => by
    obtain ⟨ih0, ih1, ih2, ih3, ih4, ih5⟩ := rotalaw13_RingArcs.mono_l k
    refine ⟨?_, ?_, ?_, ?_, ?_, ?_⟩
    · intro y0 y1 y2 y3
      unfold rotalaw13_RingArcs.j0
      repeat' first
      | (with_reducible exact ih0 _ _ _ _)
      | (with_reducible exact ih1 _ _ _ _ _ _ _ _ _ _ _ _ _)
      | (with_reducible exact ih2 _ _ _ _ _ _ _ _ _ _ _ _ _ _)
      | (with_reducible exact ih3 _ _ _ _ _ _ _ _ _)
      | (with_reducible exact ih4 _ _ _ _ _ _ _ _ _)
      | (with_reducible exact ih5 _ _ _ _ _ _ _ _ _ _ _ _ _ _ _)
      | (with_reducible exact ring_Covered.mono _ _ _)
      | (with_reducible exact ring_Fit.mono _ _ _ _)
      | (with_reducible exact ring_Gaps.mono _ _ _)
      | (with_reducible exact ring_Meet.mono _ _ _ _ _ _)
      | (with_reducible exact rotaref13_Fit.mono _ _ _ _)
      | (with_reducible exact rotaref13_Gaps.mono _ _ _)
      | (with_reducible exact rotaref13_May.mono _ _ _)
      | (with_reducible exact rotaref13_Same.mono _ _ _)
      | (with_reducible exact rotaref13_Taken.mono _ _ _)
      | (with_reducible exact LeO.refl _)
      | (with_reducible exact LeO.none _)
      | (with_reducible refine LeO.ite ?_ ?_)
      | (with_reducible refine LeO.bind ?_ (fun _ => ?_))
      | exact ih0 _ _ _ _
      | exact ih1 _ _ _ _ _ _ _ _ _ _ _ _ _
      | exact ih2 _ _ _ _ _ _ _ _ _ _ _ _ _ _
      | exact ih3 _ _ _ _ _ _ _ _ _
      | exact ih4 _ _ _ _ _ _ _ _ _
      | exact ih5 _ _ _ _ _ _ _ _ _ _ _ _ _ _ _
      | exact ring_Covered.mono _ _ _
      | exact ring_Fit.mono _ _ _ _
      | exact ring_Gaps.mono _ _ _
      | exact ring_Meet.mono _ _ _ _ _ _
      | exact rotaref13_Fit.mono _ _ _ _
      | exact rotaref13_Gaps.mono _ _ _
      | exact rotaref13_May.mono _ _ _
      | exact rotaref13_Same.mono _ _ _
      | exact rotaref13_Taken.mono _ _ _
      | exact LeO.none _
      | refine LeO.ite ?_ ?_
      | refine LeO.bind ?_ (fun _ => ?_)
    · intro y0 y1 y2 y3 y4 y5 y6 y7 y8 y9 y10 y11 y12
      unfold rotalaw13_RingArcs.l0
      repeat' first
      | (with_reducible exact ih0 _ _ _ _)
      | (with_reducible exact ih1 _ _ _ _ _ _ _ _ _ _ _ _ _)
      | (with_reducible exact ih2 _ _ _ _ _ _ _ _ _ _ _ _ _ _)
      | (with_reducible exact ih3 _ _ _ _ _ _ _ _ _)
      | (with_reducible exact ih4 _ _ _ _ _ _ _ _ _)
      | (with_reducible exact ih5 _ _ _ _ _ _ _ _ _ _ _ _ _ _ _)
      | (with_reducible exact ring_Covered.mono _ _ _)
      | (with_reducible exact ring_Fit.mono _ _ _ _)
      | (with_reducible exact ring_Gaps.mono _ _ _)
      | (with_reducible exact ring_Meet.mono _ _ _ _ _ _)
      | (with_reducible exact rotaref13_Fit.mono _ _ _ _)
      | (with_reducible exact rotaref13_Gaps.mono _ _ _)
      | (with_reducible exact rotaref13_May.mono _ _ _)
      | (with_reducible exact rotaref13_Same.mono _ _ _)
      | (with_reducible exact rotaref13_Taken.mono _ _ _)
      | (with_reducible exact LeO.refl _)
      | (with_reducible exact LeO.none _)
      | (with_reducible refine LeO.ite ?_ ?_)
      | (with_reducible refine LeO.bind ?_ (fun _ => ?_))
      | exact ih0 _ _ _ _
      | exact ih1 _ _ _ _ _ _ _ _ _ _ _ _ _
      | exact ih2 _ _ _ _ _ _ _ _ _ _ _ _ _ _
      | exact ih3 _ _ _ _ _ _ _ _ _
      | exact ih4 _ _ _ _ _ _ _ _ _
      | exact ih5 _ _ _ _ _ _ _ _ _ _ _ _ _ _ _
      | exact ring_Covered.mono _ _ _
      | exact ring_Fit.mono _ _ _ _
      | exact ring_Gaps.mono _ _ _
      | exact ring_Meet.mono _ _ _ _ _ _
      | exact rotaref13_Fit.mono _ _ _ _
      | exact rotaref13_Gaps.mono _ _ _
      | exact rotaref13_May.mono _ _ _
      | exact rotaref13_Same.mono _ _ _
      | exact rotaref13_Taken.mono _ _ _
      | exact LeO.none _
      | refine LeO.ite ?_ ?_
      | refine LeO.bind ?_ (fun _ => ?_)
    · intro y0 y1 y2 y3 y4 y5 y6 y7 y8 y9 y10 y11 y12 y13
      unfold rotalaw13_RingArcs.l1
      repeat' first
      | (with_reducible exact ih0 _ _ _ _)
      | (with_reducible exact ih1 _ _ _ _ _ _ _ _ _ _ _ _ _)
      | (with_reducible exact ih2 _ _ _ _ _ _ _ _ _ _ _ _ _ _)
      | (with_reducible exact ih3 _ _ _ _ _ _ _ _ _)
      | (with_reducible exact ih4 _ _ _ _ _ _ _ _ _)
      | (with_reducible exact ih5 _ _ _ _ _ _ _ _ _ _ _ _ _ _ _)
      | (with_reducible exact ring_Covered.mono _ _ _)
      | (with_reducible exact ring_Fit.mono _ _ _ _)
      | (with_reducible exact ring_Gaps.mono _ _ _)
      | (with_reducible exact ring_Meet.mono _ _ _ _ _ _)
      | (with_reducible exact rotaref13_Fit.mono _ _ _ _)
      | (with_reducible exact rotaref13_Gaps.mono _ _ _)
      | (with_reducible exact rotaref13_May.mono _ _ _)
      | (with_reducible exact rotaref13_Same.mono _ _ _)
      | (with_reducible exact rotaref13_Taken.mono _ _ _)
      | (with_reducible exact LeO.refl _)
      | (with_reducible exact LeO.none _)
      | (with_reducible refine LeO.ite ?_ ?_)
      | (with_reducible refine LeO.bind ?_ (fun _ => ?_))
      | exact ih0 _ _ _ _
      | exact ih1 _ _ _ _ _ _ _ _ _ _ _ _ _
      | exact ih2 _ _ _ _ _ _ _ _ _ _ _ _ _ _
      | exact ih3 _ _ _ _ _ _ _ _ _
      | exact ih4 _ _ _ _ _ _ _ _ _
      | exact ih5 _ _ _ _ _ _ _ _ _ _ _ _ _ _ _
      | exact ring_Covered.mono _ _ _
      | exact ring_Fit.mono _ _ _ _
      | exact ring_Gaps.mono _ _ _
      | exact ring_Meet.mono _ _ _ _ _ _
      | exact rotaref13_Fit.mono _ _ _ _
      | exact rotaref13_Gaps.mono _ _ _
      | exact rotaref13_May.mono _ _ _
      | exact rotaref13_Same.mono _ _ _
      | exact rotaref13_Taken.mono _ _ _
      | exact LeO.none _
      | refine LeO.ite ?_ ?_
      | refine LeO.bind ?_ (fun _ => ?_)
    · intro y0 y1 y2 y3 y4 y5 y6 y7 y8
      unfold rotalaw13_RingArcs.j3
      repeat' first
      | (with_reducible exact ih0 _ _ _ _)
      | (with_reducible exact ih1 _ _ _ _ _ _ _ _ _ _ _ _ _)
      | (with_reducible exact ih2 _ _ _ _ _ _ _ _ _ _ _ _ _ _)
      | (with_reducible exact ih3 _ _ _ _ _ _ _ _ _)
      | (with_reducible exact ih4 _ _ _ _ _ _ _ _ _)
      | (with_reducible exact ih5 _ _ _ _ _ _ _ _ _ _ _ _ _ _ _)
      | (with_reducible exact ring_Covered.mono _ _ _)
      | (with_reducible exact ring_Fit.mono _ _ _ _)
      | (with_reducible exact ring_Gaps.mono _ _ _)
      | (with_reducible exact ring_Meet.mono _ _ _ _ _ _)
      | (with_reducible exact rotaref13_Fit.mono _ _ _ _)
      | (with_reducible exact rotaref13_Gaps.mono _ _ _)
      | (with_reducible exact rotaref13_May.mono _ _ _)
      | (with_reducible exact rotaref13_Same.mono _ _ _)
      | (with_reducible exact rotaref13_Taken.mono _ _ _)
      | (with_reducible exact LeO.refl _)
      | (with_reducible exact LeO.none _)
      | (with_reducible refine LeO.ite ?_ ?_)
      | (with_reducible refine LeO.bind ?_ (fun _ => ?_))
      | exact ih0 _ _ _ _
      | exact ih1 _ _ _ _ _ _ _ _ _ _ _ _ _
      | exact ih2 _ _ _ _ _ _ _ _ _ _ _ _ _ _
      | exact ih3 _ _ _ _ _ _ _ _ _
      | exact ih4 _ _ _ _ _ _ _ _ _
      | exact ih5 _ _ _ _ _ _ _ _ _ _ _ _ _ _ _
      | exact ring_Covered.mono _ _ _
      | exact ring_Fit.mono _ _ _ _
      | exact ring_Gaps.mono _ _ _
      | exact ring_Meet.mono _ _ _ _ _ _
      | exact rotaref13_Fit.mono _ _ _ _
      | exact rotaref13_Gaps.mono _ _ _
      | exact rotaref13_May.mono _ _ _
      | exact rotaref13_Same.mono _ _ _
      | exact rotaref13_Taken.mono _ _ _
      | exact LeO.none _
      | refine LeO.ite ?_ ?_
      | refine LeO.bind ?_ (fun _ => ?_)
    · intro y0 y1 y2 y3 y4 y5 y6 y7 y8
      unfold rotalaw13_RingArcs.l2
      repeat' first
      | (with_reducible exact ih0 _ _ _ _)
      | (with_reducible exact ih1 _ _ _ _ _ _ _ _ _ _ _ _ _)
      | (with_reducible exact ih2 _ _ _ _ _ _ _ _ _ _ _ _ _ _)
      | (with_reducible exact ih3 _ _ _ _ _ _ _ _ _)
      | (with_reducible exact ih4 _ _ _ _ _ _ _ _ _)
      | (with_reducible exact ih5 _ _ _ _ _ _ _ _ _ _ _ _ _ _ _)
      | (with_reducible exact ring_Covered.mono _ _ _)
      | (with_reducible exact ring_Fit.mono _ _ _ _)
      | (with_reducible exact ring_Gaps.mono _ _ _)
      | (with_reducible exact ring_Meet.mono _ _ _ _ _ _)
      | (with_reducible exact rotaref13_Fit.mono _ _ _ _)
      | (with_reducible exact rotaref13_Gaps.mono _ _ _)
      | (with_reducible exact rotaref13_May.mono _ _ _)
      | (with_reducible exact rotaref13_Same.mono _ _ _)
      | (with_reducible exact rotaref13_Taken.mono _ _ _)
      | (with_reducible exact LeO.refl _)
      | (with_reducible exact LeO.none _)
      | (with_reducible refine LeO.ite ?_ ?_)
      | (with_reducible refine LeO.bind ?_ (fun _ => ?_))
      | exact ih0 _ _ _ _
      | exact ih1 _ _ _ _ _ _ _ _ _ _ _ _ _
      | exact ih2 _ _ _ _ _ _ _ _ _ _ _ _ _ _
      | exact ih3 _ _ _ _ _ _ _ _ _
      | exact ih4 _ _ _ _ _ _ _ _ _
      | exact ih5 _ _ _ _ _ _ _ _ _ _ _ _ _ _ _
      | exact ring_Covered.mono _ _ _
      | exact ring_Fit.mono _ _ _ _
      | exact ring_Gaps.mono _ _ _
      | exact ring_Meet.mono _ _ _ _ _ _
      | exact rotaref13_Fit.mono _ _ _ _
      | exact rotaref13_Gaps.mono _ _ _
      | exact rotaref13_May.mono _ _ _
      | exact rotaref13_Same.mono _ _ _
      | exact rotaref13_Taken.mono _ _ _
      | exact LeO.none _
      | refine LeO.ite ?_ ?_
      | refine LeO.bind ?_ (fun _ => ?_)
    · intro y0 y1 y2 y3 y4 y5 y6 y7 y8 y9 y10 y11 y12 y13 y14
      unfold rotalaw13_RingArcs.l3
      repeat' first
      | (with_reducible exact ih0 _ _ _ _)
      | (with_reducible exact ih1 _ _ _ _ _ _ _ _ _ _ _ _ _)
      | (with_reducible exact ih2 _ _ _ _ _ _ _ _ _ _ _ _ _ _)
      | (with_reducible exact ih3 _ _ _ _ _ _ _ _ _)
      | (with_reducible exact ih4 _ _ _ _ _ _ _ _ _)
      | (with_reducible exact ih5 _ _ _ _ _ _ _ _ _ _ _ _ _ _ _)
      | (with_reducible exact ring_Covered.mono _ _ _)
      | (with_reducible exact ring_Fit.mono _ _ _ _)
      | (with_reducible exact ring_Gaps.mono _ _ _)
      | (with_reducible exact ring_Meet.mono _ _ _ _ _ _)
      | (with_reducible exact rotaref13_Fit.mono _ _ _ _)
      | (with_reducible exact rotaref13_Gaps.mono _ _ _)
      | (with_reducible exact rotaref13_May.mono _ _ _)
      | (with_reducible exact rotaref13_Same.mono _ _ _)
      | (with_reducible exact rotaref13_Taken.mono _ _ _)
      | (with_reducible exact LeO.refl _)
      | (with_reducible exact LeO.none _)
      | (with_reducible refine LeO.ite ?_ ?_)
      | (with_reducible refine LeO.bind ?_ (fun _ => ?_))
      | exact ih0 _ _ _ _
      | exact ih1 _ _ _ _ _ _ _ _ _ _ _ _ _
      | exact ih2 _ _ _ _ _ _ _ _ _ _ _ _ _ _
      | exact ih3 _ _ _ _ _ _ _ _ _
      | exact ih4 _ _ _ _ _ _ _ _ _
      | exact ih5 _ _ _ _ _ _ _ _ _ _ _ _ _ _ _
      | exact ring_Covered.mono _ _ _
      | exact ring_Fit.mono _ _ _ _
      | exact ring_Gaps.mono _ _ _
      | exact ring_Meet.mono _ _ _ _ _ _
      | exact rotaref13_Fit.mono _ _ _ _
      | exact rotaref13_Gaps.mono _ _ _
      | exact rotaref13_May.mono _ _ _
      | exact rotaref13_Same.mono _ _ _
      | exact rotaref13_Taken.mono _ _ _
      | exact LeO.none _
      | refine LeO.ite ?_ ?_
      | refine LeO.bind ?_ (fun _ => ?_)
theorem rotalaw13_RingArcs.mono : ∀ a0 a1 a2 k, LeO (rotalaw13_RingArcs.f k a0 a1 a2) (rotalaw13_RingArcs.f (k + 1) a0 a1 a2) := by
  intro a0 a1 a2 k
  obtain ⟨ih0, ih1, ih2, ih3, ih4, ih5⟩ := rotalaw13_RingArcs.mono_l k
  unfold rotalaw13_RingArcs.f
  repeat' first
      | (with_reducible exact ih0 _ _ _ _)
      | (with_reducible exact ih1 _ _ _ _ _ _ _ _ _ _ _ _ _)
      | (with_reducible exact ih2 _ _ _ _ _ _ _ _ _ _ _ _ _ _)
      | (with_reducible exact ih3 _ _ _ _ _ _ _ _ _)
      | (with_reducible exact ih4 _ _ _ _ _ _ _ _ _)
      | (with_reducible exact ih5 _ _ _ _ _ _ _ _ _ _ _ _ _ _ _)
      | (with_reducible exact ring_Covered.mono _ _ _)
      | (with_reducible exact ring_Fit.mono _ _ _ _)
      | (with_reducible exact ring_Gaps.mono _ _ _)
      | (with_reducible exact ring_Meet.mono _ _ _ _ _ _)
      | (with_reducible exact rotaref13_Fit.mono _ _ _ _)
      | (with_reducible exact rotaref13_Gaps.mono _ _ _)
      | (with_reducible exact rotaref13_May.mono _ _ _)
      | (with_reducible exact rotaref13_Same.mono _ _ _)
      | (with_reducible exact rotaref13_Taken.mono _ _ _)
      | (with_reducible exact LeO.refl _)
      | (with_reducible exact LeO.none _)
      | (with_reducible refine LeO.ite ?_ ?_)
      | (with_reducible refine LeO.bind ?_ (fun _ => ?_))
      | exact ih0 _ _ _ _
      | exact ih1 _ _ _ _ _ _ _ _ _ _ _ _ _
      | exact ih2 _ _ _ _ _ _ _ _ _ _ _ _ _ _
      | exact ih3 _ _ _ _ _ _ _ _ _
      | exact ih4 _ _ _ _ _ _ _ _ _
      | exact ih5 _ _ _ _ _ _ _ _ _ _ _ _ _ _ _
      | exact ring_Covered.mono _ _ _
      | exact ring_Fit.mono _ _ _ _
      | exact ring_Gaps.mono _ _ _
      | exact ring_Meet.mono _ _ _ _ _ _
      | exact rotaref13_Fit.mono _ _ _ _
      | exact rotaref13_Gaps.mono _ _ _
      | exact rotaref13_May.mono _ _ _
      | exact rotaref13_Same.mono _ _ _
      | exact rotaref13_Taken.mono _ _ _
      | exact LeO.none _
      | refine LeO.ite ?_ ?_
      | refine LeO.bind ?_ (fun _ => ?_)
def rotalaw13_RingArcs.T11 : Bool × List (List Nat × List Nat) := (true, [([], []), ([], []), ([0, 1], [0, 1]), ([2], [2]), ([], []), ([], []), ([4, 5], [4, 5]), ([6], [6]), ([3, 7], [3, 7])])
def rotalaw13_RingArcs.B11 : List Nat := [0, 0, 3, 7, 0, 0, 48, 112, 255]
theorem rotalaw13_RingArcs.tab11 : rtab .any (opsOf Try.f8 11) = rotalaw13_RingArcs.T11 := by kernel_rfl
theorem rotalaw13_RingArcs.bits11 : waitsOk rotalaw13_RingArcs.T11.2 rotalaw13_RingArcs.B11 = true := by kernel_rfl
def rotalaw13_RingArcs.T30 : Bool × List (List Nat × List Nat) := (true, [([], []), ([0], [0]), ([1], [1]), ([], []), ([], []), ([3, 4], [3, 4]), ([5], [5]), ([], []), ([2, 6, 7], [2, 6, 7]), ([8], [8]), ([9], [9]), ([9], [9]), ([10, 8, 0, 1, 2, 3, 4, 5, 6, 7, 8, 9, 10], [10]), ([11, 12, 0, 1, 2, 3, 4, 5, 6, 7, 8, 9, 10, 11, 12], [11])])
def rotalaw13_RingArcs.B30 : List Nat := [0, 1, 3, 0, 0, 24, 56, 0, 255, 511, 1023, 1023, 2047, 8191]
theorem rotalaw13_RingArcs.tab30 : rtab .any (opsOf Try.f8 30) = rotalaw13_RingArcs.T30 := by kernel_rfl
theorem rotalaw13_RingArcs.bits30 : waitsOk rotalaw13_RingArcs.T30.2 rotalaw13_RingArcs.B30 = true := by kernel_rfl
def rotalaw13_RingArcs.T31 : Bool × List (List Nat × List Nat) := (true, [([], []), ([0], [0]), ([1], [1]), ([], []), ([], []), ([3, 4], [3, 4]), ([5], [5]), ([2, 6], [2, 6]), ([], []), ([7, 8], [7, 8]), ([9, 9, 0, 1, 2, 3, 4, 5, 6, 7, 8, 9], [9])])
def rotalaw13_RingArcs.B31 : List Nat := [0, 1, 3, 0, 0, 24, 56, 127, 0, 511, 1023]
theorem rotalaw13_RingArcs.tab31 : rtab .any (opsOf Try.f8 31) = rotalaw13_RingArcs.T31 := by kernel_rfl
theorem rotalaw13_RingArcs.bits31 : waitsOk rotalaw13_RingArcs.T31.2 rotalaw13_RingArcs.B31 = true := by kernel_rfl
set_option maxHeartbeats 8000000 in
set_option maxRecDepth 100000 in
theorem rotalaw13_RingArcs.calls (k : Nat) (A0 : Option Addr) (c0 : Nat) (l0 : List (S52)) (a1 : Int) (a2 : Int) (r : Bool) (w : World) (hr0 : Kd.C k52 w A0 l0.length l0) (hc0 : l0.length ≤ c0) (h : rotalaw13_RingArcs.f k l0 a1 a2 = some r) :
    Calls Try.prog 8 #[.slice A0 l0.length c0, .int .i64 a1, .int .i64 a2] w fun e w' => e = .returned (.bool r) ∧ Below w.heap.size w w' := by
  have hu52 := Try.underlying52
  have HR0 := Aside0.mk hr0
  have HC0 := Aside0.mk hc0
  clear hr0 hc0
  have HB := Aside0.mk (Below.refl w.heap.size w)
  have H : (if a2 > 1000 then (if a2 ≤ 1048576 then (rotalaw13_RingArcs.j0 k l0 a1 a2 true) else (rotalaw13_RingArcs.j0 k l0 a1 a2 (decide ((l0.length : Int) > 20)))) else (rotalaw13_RingArcs.j0 k l0 a1 a2 (decide ((l0.length : Int) > 20)))) = some r := h
  clear h
  have HC4 := Aside0.mk H
  clear H
  go_enter Try.func8, Try.ntmps8
  go_upto_region 1 with (fail)
  go_cut [36] (fun v36 wc => ∃ (kq : Nat) (x36_3 : Bool), v36 = .bool x36_3 ∧ Aside0 (rotalaw13_RingArcs.j0 kq l0 a1 a2 x36_3 = some r) ∧ Aside0 (kq ≤ k) ∧ Aside0 (Below w.heap.size w wc))
  case first =>
    have H := HC4.out
    clear HC4
    by_cases c5 : a2 > 1000
    · rw [if_pos c5] at H
      have c5b0 : decide (1000 < a2) = true := decide_eq_true c5
      clear c5
      (first | rw [c5b0] | (simp only [i64_w, i32_w]; rw [c5b0]) | skip)
      by_cases c6 : a2 ≤ 1048576
      · rw [if_pos c6] at H
        have c6b0 : decide (a2 ≤ 1048576) = true := decide_eq_true c6
        clear c6
        have H' := Aside0.mk H
        clear H
        go_wp2
        go_meet
        case rel => exact ⟨_, (true), (by first | rfl | (simp; done) | (simp [*]; done)), H', ⟨by first | omega | exact Nat.le_refl _⟩, ⟨by repeat (first | (with_reducible first | exact HB.out | apply below_alloc | apply pw_below_drewN | apply below_drew1) | exact HB.out)⟩⟩
      · rw [if_neg c6] at H
        have c6b0 : decide (a2 ≤ 1048576) = false := decide_eq_false c6
        clear c6
        have H' := Aside0.mk H
        clear H
        go_wp2
        go_meet
        case rel => exact ⟨_, (decide ((l0.length : Int) > 20)), (by first | rfl | (simp; done) | (simp [*]; done)), H', ⟨by first | omega | exact Nat.le_refl _⟩, ⟨by repeat (first | (with_reducible first | exact HB.out | apply below_alloc | apply pw_below_drewN | apply below_drew1) | exact HB.out)⟩⟩
    · rw [if_neg c5] at H
      have c5b0 : decide (1000 < a2) = false := decide_eq_false c5
      clear c5
      (first | rw [c5b0] | (simp only [i64_w, i32_w]; rw [c5b0]) | skip)
      have H' := Aside0.mk H
      clear H
      go_wp2
      go_meet
      case rel => exact ⟨_, (decide ((l0.length : Int) > 20)), (by first | rfl | (simp; done) | (simp [*]; done)), H', ⟨by first | omega | exact Nat.le_refl _⟩, ⟨by repeat (first | (with_reducible first | exact HB.out | apply below_alloc | apply pw_below_drewN | apply below_drew1) | exact HB.out)⟩⟩
  case rest => as_aux_lemma =>
    clear HC4
    try clear p2
    try clear c5
    try clear c5b0
    try clear c6
    try clear c6b0
    obtain ⟨kq, x36_3, rfl, HA, HJ3, HB⟩ := hcut
    cases kq with
    | zero => exact absurd HA.out (by simp [rotalaw13_RingArcs.j0])
    | succ kj3 =>
      have H := HA.out
      clear HA
      simp only [rotalaw13_RingArcs.j0] at H
      by_cases c7 : x36_3 = true
      · subst c7
        have H1 : (some true) = some r := by rw [if_pos rfl] at H; exact H
        clear H
        have H := H1
        clear H1
        obtain rfl := Option.some.inj H
        go_wp2
        go_ret
        exact ⟨by first | rfl | (simp [errW_none, errW_some] <;> rfl) | (simp [*, errW_none, errW_some] <;> rfl), by repeat (first | (with_reducible first | exact HB.out | apply below_alloc | apply pw_below_drewN | apply below_drew1) | exact HB.out)⟩
      · replace c7 := Bool.eq_false_iff.mpr c7
        subst c7
        have H1 : ((rotalaw13_twin.f l0).bind fun t157 => ((rotaref13_May.f kj3 l0 a2).bind fun t160 => (if 0 ≤ (l0.length : Int) then (if (l0.length : Int) ≤ (t157.length : Int) then ((ring_Covered.f kj3 (t157.take ((l0.length : Int) : Int).toNat) a2).bind fun bt165 => ((ring_Gaps.f kj3 (t157.take ((l0.length : Int) : Int).toNat) a2).bind fun bt171 => ((ring_Fit.f kj3 (t157.take ((l0.length : Int) : Int).toNat) a1 a2).bind fun bt179 => (rotalaw13_RingArcs.l0 kj3 l0 a1 a2 t157 t160 bt165.1 bt165.2 bt171.1 bt171.2 bt179.1 bt179.2 (l0.length : Int) 0)))) else (none)) else (none)))) = some r := by rw [if_neg (show ¬ (false = true) by decide)] at H; exact H
        clear H
        have H := H1
        clear H1
        replace H := Option.bind_eq_some_iff.mp H
        obtain ⟨t157, A80, H⟩ := H
        replace H : ((rotaref13_May.f kj3 l0 a2).bind fun t160 => (if 0 ≤ (l0.length : Int) then (if (l0.length : Int) ≤ (t157.length : Int) then ((ring_Covered.f kj3 (t157.take ((l0.length : Int) : Int).toNat) a2).bind fun bt165 => ((ring_Gaps.f kj3 (t157.take ((l0.length : Int) : Int).toNat) a2).bind fun bt171 => ((ring_Fit.f kj3 (t157.take ((l0.length : Int) : Int).toNat) a1 a2).bind fun bt179 => (rotalaw13_RingArcs.l0 kj3 l0 a1 a2 t157 t160 bt165.1 bt165.2 bt171.1 bt171.2 bt179.1 bt179.2 (l0.length : Int) 0)))) else (none)) else (none))) = some r := H
        have A8 := Aside0.mk A80
        clear A80
        replace H := Option.bind_eq_some_iff.mp H
        obtain ⟨t160, A90, H⟩ := H
        replace H : (if 0 ≤ (l0.length : Int) then (if (l0.length : Int) ≤ (t157.length : Int) then ((ring_Covered.f kj3 (t157.take ((l0.length : Int) : Int).toNat) a2).bind fun bt165 => ((ring_Gaps.f kj3 (t157.take ((l0.length : Int) : Int).toNat) a2).bind fun bt171 => ((ring_Fit.f kj3 (t157.take ((l0.length : Int) : Int).toNat) a1 a2).bind fun bt179 => (rotalaw13_RingArcs.l0 kj3 l0 a1 a2 t157 t160 bt165.1 bt165.2 bt171.1 bt171.2 bt179.1 bt179.2 (l0.length : Int) 0)))) else (none)) else (none)) = some r := H
        have A9 := Aside0.mk A90
        clear A90
        by_cases c10 : 0 ≤ (l0.length : Int)
        · rw [if_pos c10] at H
          have c10b0 := eq_true c10
          have c10b1 : decide (0 ≤ (l0.length : Int)) = true := decide_eq_true c10
          clear c10
          by_cases c11 : (l0.length : Int) ≤ (t157.length : Int)
          · rw [if_pos c11] at H
            have c11b0 := eq_true c11
            have c11b1 : decide ((l0.length : Int) ≤ (t157.length : Int)) = true := decide_eq_true c11
            clear c11
            obtain ⟨y161, hy161⟩ : ∃ y_ : List (S52), y_ = (t157.take ((l0.length : Int) : Int).toNat) := ⟨_, rfl⟩
            replace H : ((ring_Covered.f kj3 y161 a2).bind fun bt165 => ((ring_Gaps.f kj3 (t157.take ((l0.length : Int) : Int).toNat) a2).bind fun bt171 => ((ring_Fit.f kj3 (t157.take ((l0.length : Int) : Int).toNat) a1 a2).bind fun bt179 => (rotalaw13_RingArcs.l0 kj3 l0 a1 a2 t157 t160 bt165.1 bt165.2 bt171.1 bt171.2 bt179.1 bt179.2 (l0.length : Int) 0)))) = some r := by first | (rw [hy161]; with_reducible exact H) | (have H2_ := (Option.bind_some _ _).symm.trans H; rw [hy161]; with_reducible exact H2_) | (have H2_ := (Option.bind_some _ _).symm.trans H; with_reducible exact H2_) | with_reducible exact H | (rw [hy161]; exact H) | exact H
            have Ny161 := Aside0.mk hy161
            clear hy161
            replace H := Option.bind_eq_some_iff.mp H
            obtain ⟨⟨t165, t166⟩, A120, H⟩ := H
            replace H : ((ring_Gaps.f kj3 (t157.take ((l0.length : Int) : Int).toNat) a2).bind fun bt171 => ((ring_Fit.f kj3 (t157.take ((l0.length : Int) : Int).toNat) a1 a2).bind fun bt179 => (rotalaw13_RingArcs.l0 kj3 l0 a1 a2 t157 t160 t165 t166 bt171.1 bt171.2 bt179.1 bt179.2 (l0.length : Int) 0))) = some r := H
            have A12 := Aside0.mk A120
            clear A120
            have c13b0 := eq_true (of_decide_eq_true (by first | (with_reducible assumption) | assumption) : 0 ≤ (l0.length : Int))
            have c14b0 := eq_true (of_decide_eq_true (by first | (with_reducible assumption) | assumption) : (l0.length : Int) ≤ (t157.length : Int))
            have hy161 := Ny161.out
            replace H : ((ring_Gaps.f kj3 y161 a2).bind fun bt171 => ((ring_Fit.f kj3 (t157.take ((l0.length : Int) : Int).toNat) a1 a2).bind fun bt179 => (rotalaw13_RingArcs.l0 kj3 l0 a1 a2 t157 t160 t165 t166 bt171.1 bt171.2 bt179.1 bt179.2 (l0.length : Int) 0))) = some r := by first | (rw [hy161]; with_reducible exact H) | (have H2_ := (Option.bind_some _ _).symm.trans H; rw [hy161]; with_reducible exact H2_) | (have H2_ := (Option.bind_some _ _).symm.trans H; with_reducible exact H2_) | with_reducible exact H | (rw [hy161]; exact H) | exact H
            have Ny161 := Aside0.mk hy161
            clear hy161
            replace H := Option.bind_eq_some_iff.mp H
            obtain ⟨⟨t171, t172⟩, A150, H⟩ := H
            replace H : ((ring_Fit.f kj3 (t157.take ((l0.length : Int) : Int).toNat) a1 a2).bind fun bt179 => (rotalaw13_RingArcs.l0 kj3 l0 a1 a2 t157 t160 t165 t166 t171 t172 bt179.1 bt179.2 (l0.length : Int) 0)) = some r := H
            have A15 := Aside0.mk A150
            clear A150
            have c16b0 := eq_true (of_decide_eq_true (by first | (with_reducible assumption) | assumption) : 0 ≤ (l0.length : Int))
            have c17b0 := eq_true (of_decide_eq_true (by first | (with_reducible assumption) | assumption) : (l0.length : Int) ≤ (t157.length : Int))
            have hy161 := Ny161.out
            replace H : ((ring_Fit.f kj3 y161 a1 a2).bind fun bt179 => (rotalaw13_RingArcs.l0 kj3 l0 a1 a2 t157 t160 t165 t166 t171 t172 bt179.1 bt179.2 (l0.length : Int) 0)) = some r := by first | (rw [hy161]; with_reducible exact H) | (have H2_ := (Option.bind_some _ _).symm.trans H; rw [hy161]; with_reducible exact H2_) | (have H2_ := (Option.bind_some _ _).symm.trans H; with_reducible exact H2_) | with_reducible exact H | (rw [hy161]; exact H) | exact H
            have Ny161 := Aside0.mk hy161
            clear hy161
            replace H := Option.bind_eq_some_iff.mp H
            obtain ⟨⟨t179, t180⟩, A180, H⟩ := H
            replace H : (rotalaw13_RingArcs.l0 kj3 l0 a1 a2 t157 t160 t165 t166 t171 t172 t179 t180 (l0.length : Int) 0) = some r := H
            have A18 := Aside0.mk A180
            clear A180
            have H' := Aside0.mk H
            clear H
            go_wp2_with (first | ((with_reducible refine gate_callee (f := 30) rfl ?_); refine goesL_ (some 38) rfl rfl Try.func30 (by kernel_rfl) rfl #[.slice A0 l0.length c0] rfl (by (try simp only [List.map_toArray, List.map_cons, List.map_nil]); first | done | rfl | (simp only [List.length_drop, List.length_take]; rfl)) ?_; (with_reducible refine (rotalaw13_twin.calls _ _ l0 t157 _ ?side1 ?side2 A8.out).mono ?_); (case side1 => repeat (first | exact (Kd.C_below HR0.out HB.out) | (with_reducible refine Kd.C_alloc ?_ _) | (with_reducible refine Kd.C_drewN ?_ _) | (with_reducible refine Kd.C_drew ?_))); (case side2 => exact HC0.out); rintro e w19 ⟨v158, rfl, ho0, hb⟩; refine ⟨_, rfl, ?_⟩; have n0_ := Aside0.mk (Kd.R_lower ho0 (below_size (by repeat (first | (with_reducible first | exact HB.out | apply below_alloc | apply pw_below_drewN | apply below_drew1) | exact HB.out)))); have n1_ := Aside0.mk (below_step (by repeat (first | (with_reducible first | exact HB.out | apply below_alloc | apply pw_below_drewN | apply below_drew1) | exact HB.out)) hb); clear HB; have HO159 := n0_; have HB := n1_; clear n0_ n1_; (try clear hb); (try clear hb2); (try clear hk); (try clear hi); (try clear ho0)) | ((with_reducible refine gate_callee (f := 11) rfl ?_); refine goesL_ (some 41) rfl rfl Try.func11 (by kernel_rfl) rfl #[.slice A0 l0.length c0, .int .i64 a2] rfl (by (try simp only [List.map_toArray, List.map_cons, List.map_nil]); first | done | rfl | (simp only [List.length_drop, List.length_take]; rfl)) ?_; (with_reducible refine (rotaref13_May.calls kj3 _ _ l0 a2 t160 _ ?side1 ?side2 A9.out).mono ?_); (case side1 => repeat (first | exact (Kd.C_below HR0.out HB.out) | (with_reducible refine Kd.C_alloc ?_ _) | (with_reducible refine Kd.C_drewN ?_ _) | (with_reducible refine Kd.C_drew ?_))); (case side2 => exact HC0.out); rintro e w' ⟨rfl, ⟨nd, rfl⟩⟩; refine ⟨_, rfl, ?_⟩; obtain ⟨Ao21, co21, eo21⟩ := Kd.R_slice HO159.out; subst eo21; have q20 : ((l0.length : Int) : Int) ≤ ((t157.length : Int) : Int) := of_decide_eq_true (by first | (with_reducible assumption) | assumption); obtain ⟨i020, hi020, _, hsz20, _⟩ := info_parts info52; have hroom20 : t157.length ≤ co21 := (Kd.R_reads' HO159.out).2.1; have hC20 : Kd.C k52 _ Ao21 t157.length t157 := (Kd.R_reads' HO159.out).2.2; have hcut20 := cut_to (P := Try.prog) 49 52 .i64 Try.underlying49 hi020 Ao21 t157.length co21 (l0.length : Int) (of_decide_eq_true (by first | (with_reducible assumption) | assumption)) q20 hroom20; have hr20 := Kd.C_take (m := ((l0.length : Int) : Int).toNat) hC20 (by omega); have hy20 : y161.length = ((l0.length : Int) : Int).toNat := (by rw [Ny161.out, List.length_take]; omega); rw [← Ny161.out] at hr20; rw [← hy20] at hcut20; have HR164 := Aside0.mk hr20; have HC164 := Aside0.mk (show y161.length ≤ co21 from by omega); clear hr20 hC20 hroom20 hi020 hsz20; have KY20 := Aside0.mk hy20; clear hy20; have KL20 := Aside0.mk (show ((l0.length : Int) : Int).toNat ≤ t157.length from by omega); replace q20 := eq_true q20) | ((with_reducible refine gate_callee (f := 27) rfl ?_); refine goesL_ (some 48) rfl rfl Try.func27 (by kernel_rfl) rfl #[.slice Ao21 y161.length co21, .int .i64 a2] rfl (by (try simp only [List.map_toArray, List.map_cons, List.map_nil]); first | done | rfl | (simp only [List.length_drop, List.length_take]; rfl)) ?_; (with_reducible refine (ring_Covered.calls kj3 _ _ y161 a2 t165 t166 _ ?side1 ?side2 A12.out).mono ?_); (case side1 => repeat (first | exact (by repeat (first | (with_reducible exact HR164.out) | (with_reducible refine Kd.C_alloc ?_ _) | (with_reducible refine Kd.C_drewN ?_ _) | (with_reducible refine Kd.C_drew ?_) | exact HR164.out)) | (with_reducible refine Kd.C_alloc ?_ _) | (with_reducible refine Kd.C_drewN ?_ _) | (with_reducible refine Kd.C_drew ?_))); (case side2 => exact HC164.out); rintro e w22 ⟨rfl, hb⟩; refine ⟨_, rfl, ?_⟩; have n0_ := Aside0.mk (Kd.R_below (by (with_reducible repeat (first | apply Kd.R_alloc | apply Kd.R_drewN | apply Kd.R_drew)); exact HO159.out) hb); have n1_ := Aside0.mk (Kd.C_below (by repeat (first | (with_reducible exact HR164.out) | (with_reducible refine Kd.C_alloc ?_ _) | (with_reducible refine Kd.C_drewN ?_ _) | (with_reducible refine Kd.C_drew ?_) | exact HR164.out)) hb); have n2_ := Aside0.mk (below_step (by repeat (first | (with_reducible first | exact HB.out | apply below_alloc | apply pw_below_drewN | apply below_drew1) | exact HB.out)) hb); clear HO159; clear HR164; clear HB; have HO159 := n0_; have HR164 := n1_; have HB := n2_; clear n0_ n1_ n2_; (try clear hb); (try clear hb2); (try clear hk); (try clear hi); have q23 : ((l0.length : Int) : Int) ≤ ((t157.length : Int) : Int) := of_decide_eq_true (by first | (with_reducible assumption) | assumption); obtain ⟨i023, hi023, _, hsz23, _⟩ := info_parts info52; have hroom23 : t157.length ≤ co21 := (Kd.R_reads' HO159.out).2.1; have hC23 : Kd.C k52 _ Ao21 t157.length t157 := (Kd.R_reads' HO159.out).2.2; have hcut23 := cut_to (P := Try.prog) 49 52 .i64 Try.underlying49 hi023 Ao21 t157.length co21 (l0.length : Int) (of_decide_eq_true (by first | (with_reducible assumption) | assumption)) q23 hroom23; have hr23 := Kd.C_take (m := ((l0.length : Int) : Int).toNat) hC23 (by omega); have hy23 : y161.length = ((l0.length : Int) : Int).toNat := (by rw [Ny161.out, List.length_take]; omega); rw [← Ny161.out] at hr23; rw [← hy23] at hcut23; have HR170 := Aside0.mk hr23; have HC170 := Aside0.mk (show y161.length ≤ co21 from by omega); clear hr23 hC23 hroom23 hi023 hsz23; have KY23 := Aside0.mk hy23; clear hy23; have KL23 := Aside0.mk (show ((l0.length : Int) : Int).toNat ≤ t157.length from by omega); replace q23 := eq_true q23) | ((with_reducible refine gate_callee (f := 28) rfl ?_); refine goesL_ (some 57) rfl rfl Try.func28 (by kernel_rfl) rfl #[.slice Ao21 y161.length co21, .int .i64 a2] rfl (by (try simp only [List.map_toArray, List.map_cons, List.map_nil]); first | done | rfl | (simp only [List.length_drop, List.length_take]; rfl)) ?_; (with_reducible refine (ring_Gaps.calls kj3 _ _ y161 a2 t171 t172 _ ?side1 ?side2 A15.out).mono ?_); (case side1 => repeat (first | exact (by repeat (first | (with_reducible exact HR170.out) | (with_reducible refine Kd.C_alloc ?_ _) | (with_reducible refine Kd.C_drewN ?_ _) | (with_reducible refine Kd.C_drew ?_) | exact HR170.out)) | (with_reducible refine Kd.C_alloc ?_ _) | (with_reducible refine Kd.C_drewN ?_ _) | (with_reducible refine Kd.C_drew ?_))); (case side2 => exact HC170.out); rintro e w24 ⟨v173, rfl, ho0, hb⟩; refine ⟨_, rfl, ?_⟩; have n0_ := Aside0.mk (Kd.R_elder' (by (with_reducible repeat (first | apply Kd.R_alloc | apply Kd.R_drewN | apply Kd.R_drew)); exact HO159.out) (Kd.R_base ho0) hb); have n1_ := Aside0.mk (Kd.R_lower (Kd.R_new' ho0 (Kd.R_lt (by (with_reducible repeat (first | apply Kd.R_alloc | apply Kd.R_drewN | apply Kd.R_drew)); exact HO159.out))) (below_size (by repeat (first | (with_reducible first | exact HB.out | apply below_alloc | apply pw_below_drewN | apply below_drew1) | exact HB.out)))); have n2_ := Aside0.mk (Kd.C_below (by repeat (first | (with_reducible exact HR164.out) | (with_reducible refine Kd.C_alloc ?_ _) | (with_reducible refine Kd.C_drewN ?_ _) | (with_reducible refine Kd.C_drew ?_) | exact HR164.out)) hb); have n3_ := Aside0.mk (Kd.C_below (by repeat (first | (with_reducible exact HR170.out) | (with_reducible refine Kd.C_alloc ?_ _) | (with_reducible refine Kd.C_drewN ?_ _) | (with_reducible refine Kd.C_drew ?_) | exact HR170.out)) hb); have n4_ := Aside0.mk (below_step (by repeat (first | (with_reducible first | exact HB.out | apply below_alloc | apply pw_below_drewN | apply below_drew1) | exact HB.out)) hb); clear HO159; clear HR164; clear HR170; clear HB; have HO159 := n0_; have HO174 := n1_; have HR164 := n2_; have HR170 := n3_; have HB := n4_; clear n0_ n1_ n2_ n3_ n4_; (try clear hb); (try clear hb2); (try clear hk); (try clear hi); (try clear ho0); have q25 : ((l0.length : Int) : Int) ≤ ((t157.length : Int) : Int) := of_decide_eq_true (by first | (with_reducible assumption) | assumption); obtain ⟨i025, hi025, _, hsz25, _⟩ := info_parts info52; have hroom25 : t157.length ≤ co21 := (Kd.R_reads' HO159.out).2.1; have hC25 : Kd.C k52 _ Ao21 t157.length t157 := (Kd.R_reads' HO159.out).2.2; have hcut25 := cut_to (P := Try.prog) 49 52 .i64 Try.underlying49 hi025 Ao21 t157.length co21 (l0.length : Int) (of_decide_eq_true (by first | (with_reducible assumption) | assumption)) q25 hroom25; have hr25 := Kd.C_take (m := ((l0.length : Int) : Int).toNat) hC25 (by omega); have hy25 : y161.length = ((l0.length : Int) : Int).toNat := (by rw [Ny161.out, List.length_take]; omega); rw [← Ny161.out] at hr25; rw [← hy25] at hcut25; have HR178 := Aside0.mk hr25; have HC178 := Aside0.mk (show y161.length ≤ co21 from by omega); clear hr25 hC25 hroom25 hi025 hsz25; have KY25 := Aside0.mk hy25; clear hy25; have KL25 := Aside0.mk (show ((l0.length : Int) : Int).toNat ≤ t157.length from by omega); replace q25 := eq_true q25) | ((with_reducible refine gate_callee (f := 31) rfl ?_); refine goesL_ (some 67) rfl rfl Try.func31 (by kernel_rfl) rfl #[.slice Ao21 y161.length co21, .int .i64 a1, .int .i64 a2] rfl (by (try simp only [List.map_toArray, List.map_cons, List.map_nil]); first | done | rfl | (simp only [List.length_drop, List.length_take]; rfl)) ?_; (with_reducible refine (ring_Fit.calls kj3 _ _ y161 a1 a2 t179 t180 _ ?side1 ?side2 A18.out).mono ?_); (case side1 => repeat (first | exact (by repeat (first | (with_reducible exact HR178.out) | (with_reducible refine Kd.C_alloc ?_ _) | (with_reducible refine Kd.C_drewN ?_ _) | (with_reducible refine Kd.C_drew ?_) | exact HR178.out)) | (with_reducible refine Kd.C_alloc ?_ _) | (with_reducible refine Kd.C_drewN ?_ _) | (with_reducible refine Kd.C_drew ?_))); (case side2 => exact HC178.out); rintro e w26 ⟨rfl, hb⟩; refine ⟨_, rfl, ?_⟩; have n0_ := Aside0.mk (Kd.R_below (by (with_reducible repeat (first | apply Kd.R_alloc | apply Kd.R_drewN | apply Kd.R_drew)); exact HO159.out) hb); have n1_ := Aside0.mk (Kd.R_below (by (with_reducible repeat (first | apply Kd.R_alloc | apply Kd.R_drewN | apply Kd.R_drew)); exact HO174.out) hb); have n2_ := Aside0.mk (Kd.C_below (by repeat (first | (with_reducible exact HR164.out) | (with_reducible refine Kd.C_alloc ?_ _) | (with_reducible refine Kd.C_drewN ?_ _) | (with_reducible refine Kd.C_drew ?_) | exact HR164.out)) hb); have n3_ := Aside0.mk (Kd.C_below (by repeat (first | (with_reducible exact HR170.out) | (with_reducible refine Kd.C_alloc ?_ _) | (with_reducible refine Kd.C_drewN ?_ _) | (with_reducible refine Kd.C_drew ?_) | exact HR170.out)) hb); have n4_ := Aside0.mk (Kd.C_below (by repeat (first | (with_reducible exact HR178.out) | (with_reducible refine Kd.C_alloc ?_ _) | (with_reducible refine Kd.C_drewN ?_ _) | (with_reducible refine Kd.C_drew ?_) | exact HR178.out)) hb); have n5_ := Aside0.mk (below_step (by repeat (first | (with_reducible first | exact HB.out | apply below_alloc | apply pw_below_drewN | apply below_drew1) | exact HB.out)) hb); clear HO159; clear HO174; clear HR164; clear HR170; clear HR178; clear HB; have HO159 := n0_; have HO174 := n1_; have HR164 := n2_; have HR170 := n3_; have HR178 := n4_; have HB := n5_; clear n0_ n1_ n2_ n3_ n4_ n5_; (try clear hb); (try clear hb2); (try clear hk); (try clear hi)))
            go_loopg [72] kj3 (fun kq v72 w' => ∃ (x72_2 : Int), v72 = .int .i64 x72_2 ∧ Aside0 (rotalaw13_RingArcs.l0 kq l0 a1 a2 t157 t160 t165 t166 t171 t172 t179 t180 (l0.length : Int) x72_2 = some r) ∧ Aside0 (kq ≤ kj3) ∧ Aside0 (Kd.R k52 52 w' w.heap.size (fun k_ => some k_ ≠ (v173 : Value).ownBlock) (.slice Ao21 t157.length co21) t157) ∧ Aside0 (Kd.R k52 52 w' w.heap.size (fun k_ => some k_ ≠ ((.slice Ao21 t157.length co21) : Value).ownBlock) v173 t171) ∧ Aside0 (Kd.C k52 w' Ao21 y161.length y161) ∧ Aside0 (Kd.C k52 w' Ao21 y161.length y161) ∧ Aside0 (Kd.C k52 w' Ao21 y161.length y161) ∧ Aside0 (Below w.heap.size w w'))
            case atStart => exact ⟨(0), (by first | rfl | (simp; done) | (simp [*]; done)), H', ⟨Nat.le_refl _⟩, ⟨by (with_reducible repeat (first | apply Kd.R_alloc | apply Kd.R_drewN | apply Kd.R_drew)); exact Kd.R_mono HO159.out (fun _ hk => hk.2)⟩, ⟨by (with_reducible repeat (first | apply Kd.R_alloc | apply Kd.R_drewN | apply Kd.R_drew)); exact Kd.R_mono HO174.out (fun _ hk => hk.2)⟩, ⟨by repeat (first | (with_reducible exact HR164.out) | (with_reducible refine Kd.C_alloc ?_ _) | (with_reducible refine Kd.C_drewN ?_ _) | (with_reducible refine Kd.C_drew ?_) | exact HR164.out)⟩, ⟨by repeat (first | (with_reducible exact HR170.out) | (with_reducible refine Kd.C_alloc ?_ _) | (with_reducible refine Kd.C_drewN ?_ _) | (with_reducible refine Kd.C_drew ?_) | exact HR170.out)⟩, ⟨by repeat (first | (with_reducible exact HR178.out) | (with_reducible refine Kd.C_alloc ?_ _) | (with_reducible refine Kd.C_drewN ?_ _) | (with_reducible refine Kd.C_drew ?_) | exact HR178.out)⟩, ⟨by repeat (first | (with_reducible first | exact HB.out | apply below_alloc | apply pw_below_drewN | apply below_drew1) | exact HB.out)⟩⟩
            case round => as_aux_lemma =>
              clear H'
              try clear c1
              try clear c2
              try clear p2
              try clear q2
              try clear c3
              try clear c5
              try clear c5b0
              try clear c6
              try clear c6b0
              try clear c7
              try clear c8
              try clear c10
              try clear c10b0
              try clear c10b1
              try clear c11
              try clear c11b0
              try clear c11b1
              try clear c13
              try clear c13b0
              try clear c14
              try clear c14b0
              try clear c16
              try clear c16b0
              try clear c17
              try clear c17b0
              try clear q20
              try clear q23
              try clear q25
              try clear p2
              try clear q20
              try clear q23
              try clear q25
              obtain ⟨x72_2, rfl, HA, HK2, HO_7, HO_11, HR164, HR170, HR178, HB⟩ := hrel
              cases gk with
              | zero => exact absurd HA.out (by simp [rotalaw13_RingArcs.l0])
              | succ k2 =>
                have H := HA.out
                clear HA
                simp only [rotalaw13_RingArcs.l0] at H
                by_cases c27 : x72_2 < (l0.length : Int)
                · rw [if_pos c27] at H
                  have c27b0 : decide (x72_2 < (l0.length : Int)) = true := decide_eq_true c27
                  clear c27
                  by_cases c28 : 0 ≤ x72_2
                  · rw [if_pos c28] at H
                    have c28b0 : decide (0 ≤ x72_2) = true := decide_eq_true c28
                    clear c28
                    by_cases c29 : x72_2 < (t157.length : Int)
                    · rw [if_pos c29] at H
                      have c29b0 : decide (x72_2 < (t157.length : Int)) = true := decide_eq_true c29
                      clear c29
                      by_cases c30 : x72_2 < (l0.length : Int)
                      · rw [if_pos c30] at H
                        have c30b0 : decide (x72_2 < (l0.length : Int)) = true := decide_eq_true c30
                        clear c30
                        by_cases c31 : (!(((rd_T52 t157 x72_2).f0) == ((rd_T52 l0 x72_2).f0)) || (!(((rd_T52 t157 x72_2).f1) == ((rd_T52 l0 x72_2).f1)))) = true
                        · rw [if_pos c31] at H
                          have c31b0 : (!(((rd_T52 t157 x72_2).f0) == ((rd_T52 l0 x72_2).f0)) || (!(((rd_T52 t157 x72_2).f1) == ((rd_T52 l0 x72_2).f1)))) = true := c31
                          clear c31
                          obtain rfl := Option.some.inj H
                          try go_wp2
                          have n0_ := Aside0.mk (Kd.R_drew HO_7.out)
                          have n1_ := Aside0.mk (Kd.R_drew HO_11.out)
                          have n2_ := Aside0.mk (Kd.C_drew HR164.out)
                          have n3_ := Aside0.mk (Kd.C_drew HR170.out)
                          have n4_ := Aside0.mk (Kd.C_drew HR178.out)
                          have n5_ := Aside0.mk (below_drew1 HB.out)
                          clear HO_7
                          clear HO_11
                          clear HR164
                          clear HR170
                          clear HR178
                          clear HB
                          have HO_7 := n0_
                          have HO_11 := n1_
                          have HR164 := n2_
                          have HR170 := n3_
                          have HR178 := n4_
                          have HB := n5_
                          clear n0_ n1_ n2_ n3_ n4_ n5_
                          have p181 : 0 ≤ (x72_2 : Int) := of_decide_eq_true (by first | (with_reducible assumption) | assumption)
                          have q181 : x72_2 < (t157.length : Int) := of_decide_eq_true (by first | (with_reducible assumption) | assumption)
                          obtain ⟨ad181, e181, hx181_0, hx181_1⟩ := at_T52 (Kd.R_reads' HO_7.out).2.2 x72_2 p181 q181
                          cases e181
                          replace p181 := eq_true p181
                          replace q181 := eq_true q181
                          have p182 : 0 ≤ (x72_2 : Int) := of_decide_eq_true (by first | (with_reducible assumption) | assumption)
                          have q182 : x72_2 < (l0.length : Int) := of_decide_eq_true (by first | (with_reducible assumption) | assumption)
                          obtain ⟨ad182, e182, hx182_0, hx182_1⟩ := at_T52 HR0.out x72_2 p182 q182
                          have hw182_1 := hx182_1
                          have hw182_0 := hx182_0
                          cases e182
                          replace hx182_0 := (HB.out.cell (World.block_lt_of_cell? w _ hx182_0)).trans hx182_0
                          replace hx182_1 := (HB.out.cell (World.block_lt_of_cell? w _ hx182_1)).trans hx182_1
                          replace p182 := eq_true p182
                          replace q182 := eq_true q182
                          refine start_ (n := 9) (S := fun w' => w'.cell? (ad181.add ((x72_2).toNat * 2)) = some (.int .i64 ((rd_T52 t157 x72_2).f0)) ∧ w'.cell? ⟨(ad181.add ((x72_2).toNat * 2)).block, (ad181.add ((x72_2).toNat * 2)).off + 1, none⟩ = some (.int .i64 ((rd_T52 t157 x72_2).f1)) ∧ w'.cell? (ad182.add ((x72_2).toNat * 2)) = some (.int .i64 ((rd_T52 l0 x72_2).f0)) ∧ w'.cell? ⟨(ad182.add ((x72_2).toNat * 2)).block, (ad182.add ((x72_2).toNat * 2)).off + 1, none⟩ = some (.int .i64 ((rd_T52 l0 x72_2).f1))) (ds := []) #[false, false, false, false, false, false, false, false, false] (by kernel_rfl) rfl rfl ⟨hx181_0, hx181_1, ((HB.out.cell (World.block_lt_of_cell? w _ hw182_0)).trans hw182_0), ((HB.out.cell (World.block_lt_of_cell? w _ hw182_1)).trans hw182_1)⟩ (fun hHeld => ?_); refine with_tabW rotalaw13_RingArcs.tab11 rotalaw13_RingArcs.bits11 (fun HT_ HW_ => ?_)
                          generalize wr.drew = w32 at HO_7 HO_11 HR164 HR170 HR178 HB hx181_0 hx181_1 hx182_0 hx182_1 hHeld ⊢
                          refine pure_ (i := 0) (N := some 75) (v := ?_) (a' := ?_) #[true, false, false, false, false, false, false, false, false] rfl rfl (any_of HT_.out (by kernel_rfl)) (fun _ _ _ h => h) (Or.inl ⟨by rfl, ?_⟩) ?_ ?_
                          rotate_left
                          · intro w'
                            go_simp
                            with_reducible rfl
                          rotate_left
                          · simp only [Act.put, List.setIfInBounds_toArray, List.set_cons_zero, List.set_cons_succ, i64_w, i32_w]
                            rfl
                          refine pure_ (i := 1) (N := some 76) (v := ?_) (a' := ?_) #[true, true, false, false, false, false, false, false, false] rfl rfl (any_of HT_.out (by kernel_rfl)) (fun _ _ _ h => h) (Or.inl ⟨by rfl, ?_⟩) ?_ ?_
                          rotate_left
                          · intro w'
                            go_simp
                            with_reducible rfl
                          rotate_left
                          · simp only [Act.put, List.setIfInBounds_toArray, List.set_cons_zero, List.set_cons_succ, i64_w, i32_w]
                            rfl
                          refine pure_ (i := 2) (N := some 77) (v := ?_) (a' := ?_) #[true, true, true, false, false, false, false, false, false] rfl rfl (any_of HT_.out (by kernel_rfl)) (fun _ _ _ h => h) (Or.inl ⟨by rfl, ?_⟩) ?_ ?_
                          rotate_left
                          · intro w'
                            go_simp
                            with_reducible rfl
                          rotate_left
                          · simp only [Act.put, List.setIfInBounds_toArray, List.set_cons_zero, List.set_cons_succ, i64_w, i32_w]
                            rfl
                          refine pure_ (i := 4) (N := some 79) (v := ?_) (a' := ?_) #[true, true, true, false, true, false, false, false, false] rfl rfl (any_of HT_.out (by kernel_rfl)) (fun _ _ _ h => h) (Or.inl ⟨by rfl, ?_⟩) ?_ ?_
                          rotate_left
                          · intro w'
                            go_simp
                            with_reducible rfl
                          rotate_left
                          · simp only [Act.put, List.setIfInBounds_toArray, List.set_cons_zero, List.set_cons_succ, i64_w, i32_w]
                            rfl
                          refine pure_ (i := 5) (N := some 80) (v := ?_) (a' := ?_) #[true, true, true, false, true, true, false, false, false] rfl rfl (any_of HT_.out (by kernel_rfl)) (fun _ _ _ h => h) (Or.inl ⟨by rfl, ?_⟩) ?_ ?_
                          rotate_left
                          · intro w'
                            go_simp
                            with_reducible rfl
                          rotate_left
                          · simp only [Act.put, List.setIfInBounds_toArray, List.set_cons_zero, List.set_cons_succ, i64_w, i32_w]
                            rfl
                          refine pure_ (i := 6) (N := some 81) (v := ?_) (a' := ?_) #[true, true, true, false, true, true, true, false, false] rfl rfl (any_of HT_.out (by kernel_rfl)) (fun _ _ _ h => h) (Or.inl ⟨by rfl, ?_⟩) ?_ ?_
                          rotate_left
                          · intro w'
                            go_simp
                            with_reducible rfl
                          rotate_left
                          · simp only [Act.put, List.setIfInBounds_toArray, List.set_cons_zero, List.set_cons_succ, i64_w, i32_w]
                            rfl
                          refine take_ (i := 3) (N := some 78) (v := ?_) (a' := ?_) #[true, true, true, true, true, true, true, false, false] rfl rfl (take_ofW HT_.out HW_.out (by kernel_rfl)) (fun _ _ _ h => h) (Or.inl ⟨by rfl, ?_⟩) hHeld ?_ ?_
                          rotate_left
                          · rintro w' ⟨s0, s1, s2, s3⟩
                            go_simp
                            with_reducible rfl
                          rotate_left
                          · simp only [Act.put, List.setIfInBounds_toArray, List.set_cons_zero, List.set_cons_succ, i64_w, i32_w]
                            rfl
                          refine take_ (i := 7) (N := some 82) (v := ?_) (a' := ?_) #[true, true, true, true, true, true, true, true, false] rfl rfl (take_ofW HT_.out HW_.out (by kernel_rfl)) (fun _ _ _ h => h) (Or.inl ⟨by rfl, ?_⟩) hHeld ?_ ?_
                          rotate_left
                          · rintro w' ⟨s0, s1, s2, s3⟩
                            go_simp
                            with_reducible rfl
                          rotate_left
                          · simp only [Act.put, List.setIfInBounds_toArray, List.set_cons_zero, List.set_cons_succ, i64_w, i32_w]
                            rfl
                          refine pure_ (i := 8) (N := some 83) (v := ?_) (a' := ?_) #[true, true, true, true, true, true, true, true, true] rfl rfl (any_of HT_.out (by kernel_rfl)) (fun _ _ _ h => h) (Or.inl ⟨by rfl, ?_⟩) ?_ ?_
                          rotate_left
                          · intro w'
                            go_simp
                            with_reducible rfl
                          rotate_left
                          · simp only [Act.put, List.setIfInBounds_toArray, List.set_cons_zero, List.set_cons_succ, i64_w, i32_w]
                            rfl
                          refine done_ (done_of HT_.out (by kernel_rfl)) ?_
                          try go_wp2
                          go_ret
                          exact ⟨by first | rfl | (simp [errW_none, errW_some] <;> rfl) | (simp [*, errW_none, errW_some] <;> rfl), by repeat (first | (with_reducible first | exact HB.out | apply below_alloc | apply pw_below_drewN | apply below_drew1) | exact HB.out)⟩
                        · rw [if_neg c31] at H
                          have c31b0 : (!(((rd_T52 t157 x72_2).f0) == ((rd_T52 l0 x72_2).f0)) || (!(((rd_T52 t157 x72_2).f1) == ((rd_T52 l0 x72_2).f1)))) = false := by simpa using c31
                          clear c31
                          have H' := Aside0.mk H
                          clear H
                          try go_wp2
                          have n0_ := Aside0.mk (Kd.R_drew HO_7.out)
                          have n1_ := Aside0.mk (Kd.R_drew HO_11.out)
                          have n2_ := Aside0.mk (Kd.C_drew HR164.out)
                          have n3_ := Aside0.mk (Kd.C_drew HR170.out)
                          have n4_ := Aside0.mk (Kd.C_drew HR178.out)
                          have n5_ := Aside0.mk (below_drew1 HB.out)
                          clear HO_7
                          clear HO_11
                          clear HR164
                          clear HR170
                          clear HR178
                          clear HB
                          have HO_7 := n0_
                          have HO_11 := n1_
                          have HR164 := n2_
                          have HR170 := n3_
                          have HR178 := n4_
                          have HB := n5_
                          clear n0_ n1_ n2_ n3_ n4_ n5_
                          have p181 : 0 ≤ (x72_2 : Int) := of_decide_eq_true (by first | (with_reducible assumption) | assumption)
                          have q181 : x72_2 < (t157.length : Int) := of_decide_eq_true (by first | (with_reducible assumption) | assumption)
                          obtain ⟨ad181, e181, hx181_0, hx181_1⟩ := at_T52 (Kd.R_reads' HO_7.out).2.2 x72_2 p181 q181
                          cases e181
                          replace p181 := eq_true p181
                          replace q181 := eq_true q181
                          have p182 : 0 ≤ (x72_2 : Int) := of_decide_eq_true (by first | (with_reducible assumption) | assumption)
                          have q182 : x72_2 < (l0.length : Int) := of_decide_eq_true (by first | (with_reducible assumption) | assumption)
                          obtain ⟨ad182, e182, hx182_0, hx182_1⟩ := at_T52 HR0.out x72_2 p182 q182
                          have hw182_1 := hx182_1
                          have hw182_0 := hx182_0
                          cases e182
                          replace hx182_0 := (HB.out.cell (World.block_lt_of_cell? w _ hx182_0)).trans hx182_0
                          replace hx182_1 := (HB.out.cell (World.block_lt_of_cell? w _ hx182_1)).trans hx182_1
                          replace p182 := eq_true p182
                          replace q182 := eq_true q182
                          refine start_ (n := 9) (S := fun w' => w'.cell? (ad181.add ((x72_2).toNat * 2)) = some (.int .i64 ((rd_T52 t157 x72_2).f0)) ∧ w'.cell? ⟨(ad181.add ((x72_2).toNat * 2)).block, (ad181.add ((x72_2).toNat * 2)).off + 1, none⟩ = some (.int .i64 ((rd_T52 t157 x72_2).f1)) ∧ w'.cell? (ad182.add ((x72_2).toNat * 2)) = some (.int .i64 ((rd_T52 l0 x72_2).f0)) ∧ w'.cell? ⟨(ad182.add ((x72_2).toNat * 2)).block, (ad182.add ((x72_2).toNat * 2)).off + 1, none⟩ = some (.int .i64 ((rd_T52 l0 x72_2).f1))) (ds := []) #[false, false, false, false, false, false, false, false, false] (by kernel_rfl) rfl rfl ⟨hx181_0, hx181_1, ((HB.out.cell (World.block_lt_of_cell? w _ hw182_0)).trans hw182_0), ((HB.out.cell (World.block_lt_of_cell? w _ hw182_1)).trans hw182_1)⟩ (fun hHeld => ?_); refine with_tabW rotalaw13_RingArcs.tab11 rotalaw13_RingArcs.bits11 (fun HT_ HW_ => ?_)
                          generalize wr.drew = w33 at HO_7 HO_11 HR164 HR170 HR178 HB hx181_0 hx181_1 hx182_0 hx182_1 hHeld ⊢
                          refine pure_ (i := 0) (N := some 75) (v := ?_) (a' := ?_) #[true, false, false, false, false, false, false, false, false] rfl rfl (any_of HT_.out (by kernel_rfl)) (fun _ _ _ h => h) (Or.inl ⟨by rfl, ?_⟩) ?_ ?_
                          rotate_left
                          · intro w'
                            go_simp
                            with_reducible rfl
                          rotate_left
                          · simp only [Act.put, List.setIfInBounds_toArray, List.set_cons_zero, List.set_cons_succ, i64_w, i32_w]
                            rfl
                          refine pure_ (i := 1) (N := some 76) (v := ?_) (a' := ?_) #[true, true, false, false, false, false, false, false, false] rfl rfl (any_of HT_.out (by kernel_rfl)) (fun _ _ _ h => h) (Or.inl ⟨by rfl, ?_⟩) ?_ ?_
                          rotate_left
                          · intro w'
                            go_simp
                            with_reducible rfl
                          rotate_left
                          · simp only [Act.put, List.setIfInBounds_toArray, List.set_cons_zero, List.set_cons_succ, i64_w, i32_w]
                            rfl
                          refine pure_ (i := 2) (N := some 77) (v := ?_) (a' := ?_) #[true, true, true, false, false, false, false, false, false] rfl rfl (any_of HT_.out (by kernel_rfl)) (fun _ _ _ h => h) (Or.inl ⟨by rfl, ?_⟩) ?_ ?_
                          rotate_left
                          · intro w'
                            go_simp
                            with_reducible rfl
                          rotate_left
                          · simp only [Act.put, List.setIfInBounds_toArray, List.set_cons_zero, List.set_cons_succ, i64_w, i32_w]
                            rfl
                          refine pure_ (i := 4) (N := some 79) (v := ?_) (a' := ?_) #[true, true, true, false, true, false, false, false, false] rfl rfl (any_of HT_.out (by kernel_rfl)) (fun _ _ _ h => h) (Or.inl ⟨by rfl, ?_⟩) ?_ ?_
                          rotate_left
                          · intro w'
                            go_simp
                            with_reducible rfl
                          rotate_left
                          · simp only [Act.put, List.setIfInBounds_toArray, List.set_cons_zero, List.set_cons_succ, i64_w, i32_w]
                            rfl
                          refine pure_ (i := 5) (N := some 80) (v := ?_) (a' := ?_) #[true, true, true, false, true, true, false, false, false] rfl rfl (any_of HT_.out (by kernel_rfl)) (fun _ _ _ h => h) (Or.inl ⟨by rfl, ?_⟩) ?_ ?_
                          rotate_left
                          · intro w'
                            go_simp
                            with_reducible rfl
                          rotate_left
                          · simp only [Act.put, List.setIfInBounds_toArray, List.set_cons_zero, List.set_cons_succ, i64_w, i32_w]
                            rfl
                          refine pure_ (i := 6) (N := some 81) (v := ?_) (a' := ?_) #[true, true, true, false, true, true, true, false, false] rfl rfl (any_of HT_.out (by kernel_rfl)) (fun _ _ _ h => h) (Or.inl ⟨by rfl, ?_⟩) ?_ ?_
                          rotate_left
                          · intro w'
                            go_simp
                            with_reducible rfl
                          rotate_left
                          · simp only [Act.put, List.setIfInBounds_toArray, List.set_cons_zero, List.set_cons_succ, i64_w, i32_w]
                            rfl
                          refine take_ (i := 3) (N := some 78) (v := ?_) (a' := ?_) #[true, true, true, true, true, true, true, false, false] rfl rfl (take_ofW HT_.out HW_.out (by kernel_rfl)) (fun _ _ _ h => h) (Or.inl ⟨by rfl, ?_⟩) hHeld ?_ ?_
                          rotate_left
                          · rintro w' ⟨s0, s1, s2, s3⟩
                            go_simp
                            with_reducible rfl
                          rotate_left
                          · simp only [Act.put, List.setIfInBounds_toArray, List.set_cons_zero, List.set_cons_succ, i64_w, i32_w]
                            rfl
                          refine take_ (i := 7) (N := some 82) (v := ?_) (a' := ?_) #[true, true, true, true, true, true, true, true, false] rfl rfl (take_ofW HT_.out HW_.out (by kernel_rfl)) (fun _ _ _ h => h) (Or.inl ⟨by rfl, ?_⟩) hHeld ?_ ?_
                          rotate_left
                          · rintro w' ⟨s0, s1, s2, s3⟩
                            go_simp
                            with_reducible rfl
                          rotate_left
                          · simp only [Act.put, List.setIfInBounds_toArray, List.set_cons_zero, List.set_cons_succ, i64_w, i32_w]
                            rfl
                          refine pure_ (i := 8) (N := some 83) (v := ?_) (a' := ?_) #[true, true, true, true, true, true, true, true, true] rfl rfl (any_of HT_.out (by kernel_rfl)) (fun _ _ _ h => h) (Or.inl ⟨by rfl, ?_⟩) ?_ ?_
                          rotate_left
                          · intro w'
                            go_simp
                            with_reducible rfl
                          rotate_left
                          · simp only [Act.put, List.setIfInBounds_toArray, List.set_cons_zero, List.set_cons_succ, i64_w, i32_w]
                            rfl
                          refine done_ (done_of HT_.out (by kernel_rfl)) ?_
                          try go_wp2
                          go_roundg k2
                          case measure => have := HJ3.out; have := HK2.out; omega
                          case rel => exact ⟨(wrap64 (x72_2 + 1)), (by first | rfl | (simp; done) | (simp [*]; done)), H', ⟨by have := HJ3.out; have := HK2.out; omega⟩, ⟨by (with_reducible repeat (first | apply Kd.R_alloc | apply Kd.R_drewN | apply Kd.R_drew)); exact HO_7.out⟩, ⟨by (with_reducible repeat (first | apply Kd.R_alloc | apply Kd.R_drewN | apply Kd.R_drew)); exact HO_11.out⟩, ⟨by repeat (first | (with_reducible exact HR164.out) | (with_reducible refine Kd.C_alloc ?_ _) | (with_reducible refine Kd.C_drewN ?_ _) | (with_reducible refine Kd.C_drew ?_) | exact HR164.out)⟩, ⟨by repeat (first | (with_reducible exact HR170.out) | (with_reducible refine Kd.C_alloc ?_ _) | (with_reducible refine Kd.C_drewN ?_ _) | (with_reducible refine Kd.C_drew ?_) | exact HR170.out)⟩, ⟨by repeat (first | (with_reducible exact HR178.out) | (with_reducible refine Kd.C_alloc ?_ _) | (with_reducible refine Kd.C_drewN ?_ _) | (with_reducible refine Kd.C_drew ?_) | exact HR178.out)⟩, ⟨by repeat (first | (with_reducible first | exact HB.out | apply below_alloc | apply pw_below_drewN | apply below_drew1) | exact HB.out)⟩⟩
                      · rw [if_neg c30] at H
                        exact absurd H (by simp)
                    · rw [if_neg c29] at H
                      exact absurd H (by simp)
                  · rw [if_neg c28] at H
                    exact absurd H (by simp)
                · rw [if_neg c27] at H
                  have c27b0 : decide (x72_2 < (l0.length : Int)) = false := decide_eq_false c27
                  clear c27
                  by_cases c34 : t160 = true
                  · subst c34
                    have H1 : ((rotaref13_Taken.f k2 l0 a2).bind fun t184 => (rotalaw13_RingArcs.l1 k2 l0 a1 a2 t157 t165 t166 t171 t172 t179 t180 0 t184 (t184.length : Int) 0)) = some r := by rw [if_pos rfl] at H; exact H
                    clear H
                    have H := H1
                    clear H1
                    replace H := Option.bind_eq_some_iff.mp H
                    obtain ⟨t184, A350, H⟩ := H
                    replace H : (rotalaw13_RingArcs.l1 k2 l0 a1 a2 t157 t165 t166 t171 t172 t179 t180 0 t184 (t184.length : Int) 0) = some r := H
                    have A35 := Aside0.mk A350
                    clear A350
                    have H' := Aside0.mk H
                    clear H
                    go_wp2_with (first | ((with_reducible refine gate_callee (f := 32) rfl ?_); refine goesL_ (some 108) rfl rfl Try.func32 (by kernel_rfl) rfl #[.slice A0 l0.length c0, .int .i64 a2] rfl (by (try simp only [List.map_toArray, List.map_cons, List.map_nil]); first | done | rfl | (simp only [List.length_drop, List.length_take]; rfl)) ?_; (with_reducible refine (rotaref13_Taken.calls k2 _ _ l0 a2 t184 _ ?side1 ?side2 A35.out).mono ?_); (case side1 => repeat (first | exact (Kd.C_below HR0.out HB.out) | (with_reducible refine Kd.C_alloc ?_ _) | (with_reducible refine Kd.C_drewN ?_ _) | (with_reducible refine Kd.C_drew ?_))); (case side2 => exact HC0.out); rintro e w36 ⟨v185, rfl, ho0, hb⟩; refine ⟨_, rfl, ?_⟩; have n0_ := Aside0.mk (Kd.R_below (by (with_reducible repeat (first | apply Kd.R_alloc | apply Kd.R_drewN | apply Kd.R_drew)); exact HO_7.out) hb); have n1_ := Aside0.mk (Kd.R_below (by (with_reducible repeat (first | apply Kd.R_alloc | apply Kd.R_drewN | apply Kd.R_drew)); exact HO_11.out) hb); have n2_ := Aside0.mk (Kd.R_lower ho0 (below_size (by repeat (first | (with_reducible first | exact HB.out | apply below_alloc | apply pw_below_drewN | apply below_drew1) | exact HB.out)))); have n3_ := Aside0.mk (Kd.C_below (by repeat (first | (with_reducible exact HR164.out) | (with_reducible refine Kd.C_alloc ?_ _) | (with_reducible refine Kd.C_drewN ?_ _) | (with_reducible refine Kd.C_drew ?_) | exact HR164.out)) hb); have n4_ := Aside0.mk (Kd.C_below (by repeat (first | (with_reducible exact HR170.out) | (with_reducible refine Kd.C_alloc ?_ _) | (with_reducible refine Kd.C_drewN ?_ _) | (with_reducible refine Kd.C_drew ?_) | exact HR170.out)) hb); have n5_ := Aside0.mk (Kd.C_below (by repeat (first | (with_reducible exact HR178.out) | (with_reducible refine Kd.C_alloc ?_ _) | (with_reducible refine Kd.C_drewN ?_ _) | (with_reducible refine Kd.C_drew ?_) | exact HR178.out)) hb); have n6_ := Aside0.mk (below_step (by repeat (first | (with_reducible first | exact HB.out | apply below_alloc | apply pw_below_drewN | apply below_drew1) | exact HB.out)) hb); clear HO_7; clear HO_11; clear HR164; clear HR170; clear HR178; clear HB; have HO_7 := n0_; have HO_11 := n1_; have HO186 := n2_; have HR164 := n3_; have HR170 := n4_; have HR178 := n5_; have HB := n6_; clear n0_ n1_ n2_ n3_ n4_ n5_ n6_; (try clear hb); (try clear hb2); (try clear hk); (try clear hi); (try clear ho0); obtain ⟨Ao37, co37, eo37⟩ := Kd.R_slice HO186.out; subst eo37))
                    go_loopg [16, 111] k2 (fun kq v16 v111 w' => ∃ (x16_3 : Int) (x111_3 : Int), v16 = .int .i64 x16_3 ∧ v111 = .int .i64 x111_3 ∧ Aside0 (rotalaw13_RingArcs.l1 kq l0 a1 a2 t157 t165 t166 t171 t172 t179 t180 x16_3 t184 (t184.length : Int) x111_3 = some r) ∧ Aside0 (kq ≤ k2) ∧ Aside0 (Kd.R k52 52 w' w.heap.size (fun k_ => some k_ ≠ (v173 : Value).ownBlock) (.slice Ao21 t157.length co21) t157) ∧ Aside0 (Kd.R k52 52 w' w.heap.size (fun k_ => some k_ ≠ ((.slice Ao21 t157.length co21) : Value).ownBlock) v173 t171) ∧ Aside0 (Kd.R (Kd.int .i64) 3 w' w.heap.size (fun _ => True) (.slice Ao37 t184.length co37) t184) ∧ Aside0 (Kd.C k52 w' Ao21 y161.length y161) ∧ Aside0 (Kd.C k52 w' Ao21 y161.length y161) ∧ Aside0 (Kd.C k52 w' Ao21 y161.length y161) ∧ Aside0 (Below w.heap.size w w'))
                    case atStart => exact ⟨(0), (0), (by first | rfl | (simp; done) | (simp [*]; done)), (by first | rfl | (simp; done) | (simp [*]; done)), H', ⟨Nat.le_refl _⟩, ⟨by (with_reducible repeat (first | apply Kd.R_alloc | apply Kd.R_drewN | apply Kd.R_drew)); exact HO_7.out⟩, ⟨by (with_reducible repeat (first | apply Kd.R_alloc | apply Kd.R_drewN | apply Kd.R_drew)); exact HO_11.out⟩, ⟨by (with_reducible repeat (first | apply Kd.R_alloc | apply Kd.R_drewN | apply Kd.R_drew)); exact HO186.out⟩, ⟨by repeat (first | (with_reducible exact HR164.out) | (with_reducible refine Kd.C_alloc ?_ _) | (with_reducible refine Kd.C_drewN ?_ _) | (with_reducible refine Kd.C_drew ?_) | exact HR164.out)⟩, ⟨by repeat (first | (with_reducible exact HR170.out) | (with_reducible refine Kd.C_alloc ?_ _) | (with_reducible refine Kd.C_drewN ?_ _) | (with_reducible refine Kd.C_drew ?_) | exact HR170.out)⟩, ⟨by repeat (first | (with_reducible exact HR178.out) | (with_reducible refine Kd.C_alloc ?_ _) | (with_reducible refine Kd.C_drewN ?_ _) | (with_reducible refine Kd.C_drew ?_) | exact HR178.out)⟩, ⟨by repeat (first | (with_reducible first | exact HB.out | apply below_alloc | apply pw_below_drewN | apply below_drew1) | exact HB.out)⟩⟩
                    case round => as_aux_lemma =>
                      clear H'
                      try clear c1
                      try clear p1
                      try clear q1
                      try clear hx1
                      try clear c2
                      try clear p2
                      try clear q2
                      try clear c3
                      try clear c5
                      try clear c5b0
                      try clear c6
                      try clear c6b0
                      try clear p6
                      try clear c7
                      try clear c8
                      try clear c10
                      try clear c10b0
                      try clear c10b1
                      try clear c11
                      try clear c11b0
                      try clear c11b1
                      try clear c13
                      try clear c13b0
                      try clear c14
                      try clear c14b0
                      try clear c16
                      try clear c16b0
                      try clear c17
                      try clear c17b0
                      try clear p18
                      try clear q18
                      try clear hx18
                      try clear q20
                      try clear q23
                      try clear q25
                      try clear c27
                      try clear c27b0
                      try clear c28
                      try clear c28b0
                      try clear c29
                      try clear c29b0
                      try clear c30
                      try clear c30b0
                      try clear c31
                      try clear c31b0
                      try clear c32
                      try clear c34
                      try clear hx181_0
                      try clear hx181_1
                      try clear hx182_0
                      try clear hx182_1
                      try clear p181
                      try clear p182
                      try clear p2
                      try clear q181
                      try clear q182
                      try clear q2
                      try clear q20
                      try clear q23
                      try clear q25
                      obtain ⟨x16_3, x111_3, rfl, rfl, HA, HK3, HO_7, HO_11, HO_17, HR164, HR170, HR178, HB⟩ := hrel
                      cases gk with
                      | zero => exact absurd HA.out (by simp [rotalaw13_RingArcs.l1])
                      | succ k3 =>
                        have H := HA.out
                        clear HA
                        simp only [rotalaw13_RingArcs.l1] at H
                        by_cases c38 : x111_3 < (t184.length : Int)
                        · rw [if_pos c38] at H
                          have c38b0 : decide (x111_3 < (t184.length : Int)) = true := decide_eq_true c38
                          clear c38
                          by_cases c39 : 0 ≤ x111_3
                          · rw [if_pos c39] at H
                            have c39b0 : decide (0 ≤ x111_3) = true := decide_eq_true c39
                            clear c39
                            by_cases c40 : x111_3 < (t184.length : Int)
                            · rw [if_pos c40] at H
                              have c40b0 : decide (x111_3 < (t184.length : Int)) = true := decide_eq_true c40
                              clear c40
                              by_cases c41 : (rd t184 x111_3) > 0
                              · rw [if_pos c41] at H
                                have c41b0 : decide (0 < (rd t184 x111_3)) = true := decide_eq_true c41
                                clear c41
                                have H' := Aside0.mk H
                                clear H
                                have p187 : 0 ≤ (x111_3 : Int) := of_decide_eq_true (by first | (with_reducible assumption) | assumption)
                                have q187 : x111_3 < (t184.length : Int) := of_decide_eq_true (by first | (with_reducible assumption) | assumption)
                                obtain ⟨ad187, e187, hx187_0⟩ := Kd.at_int (Kd.R_reads' HO_17.out).2.2 x111_3 p187 q187
                                cases e187
                                replace p187 := eq_true p187
                                replace q187 := eq_true q187
                                go_wp2
                                go_roundg k3
                                case measure => have := HJ3.out; have := HK2.out; have := HK3.out; omega
                                case rel => exact ⟨(wrap64 (x16_3 + 1)), (wrap64 (x111_3 + 1)), (by first | rfl | (simp; done) | (simp [*]; done)), (by first | rfl | (simp; done) | (simp [*]; done)), H', ⟨by have := HJ3.out; have := HK2.out; have := HK3.out; omega⟩, ⟨by (with_reducible repeat (first | apply Kd.R_alloc | apply Kd.R_drewN | apply Kd.R_drew)); exact HO_7.out⟩, ⟨by (with_reducible repeat (first | apply Kd.R_alloc | apply Kd.R_drewN | apply Kd.R_drew)); exact HO_11.out⟩, ⟨by (with_reducible repeat (first | apply Kd.R_alloc | apply Kd.R_drewN | apply Kd.R_drew)); exact HO_17.out⟩, ⟨by repeat (first | (with_reducible exact HR164.out) | (with_reducible refine Kd.C_alloc ?_ _) | (with_reducible refine Kd.C_drewN ?_ _) | (with_reducible refine Kd.C_drew ?_) | exact HR164.out)⟩, ⟨by repeat (first | (with_reducible exact HR170.out) | (with_reducible refine Kd.C_alloc ?_ _) | (with_reducible refine Kd.C_drewN ?_ _) | (with_reducible refine Kd.C_drew ?_) | exact HR170.out)⟩, ⟨by repeat (first | (with_reducible exact HR178.out) | (with_reducible refine Kd.C_alloc ?_ _) | (with_reducible refine Kd.C_drewN ?_ _) | (with_reducible refine Kd.C_drew ?_) | exact HR178.out)⟩, ⟨by repeat (first | (with_reducible first | exact HB.out | apply below_alloc | apply pw_below_drewN | apply below_drew1) | exact HB.out)⟩⟩
                              · rw [if_neg c41] at H
                                have c41b0 : decide (0 < (rd t184 x111_3)) = false := decide_eq_false c41
                                clear c41
                                have H' := Aside0.mk H
                                clear H
                                have p187 : 0 ≤ (x111_3 : Int) := of_decide_eq_true (by first | (with_reducible assumption) | assumption)
                                have q187 : x111_3 < (t184.length : Int) := of_decide_eq_true (by first | (with_reducible assumption) | assumption)
                                obtain ⟨ad187, e187, hx187_0⟩ := Kd.at_int (Kd.R_reads' HO_17.out).2.2 x111_3 p187 q187
                                cases e187
                                replace p187 := eq_true p187
                                replace q187 := eq_true q187
                                go_wp2
                                go_roundg k3
                                case measure => have := HJ3.out; have := HK2.out; have := HK3.out; omega
                                case rel => exact ⟨(x16_3), (wrap64 (x111_3 + 1)), (by first | rfl | (simp; done) | (simp [*]; done)), (by first | rfl | (simp; done) | (simp [*]; done)), H', ⟨by have := HJ3.out; have := HK2.out; have := HK3.out; omega⟩, ⟨by (with_reducible repeat (first | apply Kd.R_alloc | apply Kd.R_drewN | apply Kd.R_drew)); exact HO_7.out⟩, ⟨by (with_reducible repeat (first | apply Kd.R_alloc | apply Kd.R_drewN | apply Kd.R_drew)); exact HO_11.out⟩, ⟨by (with_reducible repeat (first | apply Kd.R_alloc | apply Kd.R_drewN | apply Kd.R_drew)); exact HO_17.out⟩, ⟨by repeat (first | (with_reducible exact HR164.out) | (with_reducible refine Kd.C_alloc ?_ _) | (with_reducible refine Kd.C_drewN ?_ _) | (with_reducible refine Kd.C_drew ?_) | exact HR164.out)⟩, ⟨by repeat (first | (with_reducible exact HR170.out) | (with_reducible refine Kd.C_alloc ?_ _) | (with_reducible refine Kd.C_drewN ?_ _) | (with_reducible refine Kd.C_drew ?_) | exact HR170.out)⟩, ⟨by repeat (first | (with_reducible exact HR178.out) | (with_reducible refine Kd.C_alloc ?_ _) | (with_reducible refine Kd.C_drewN ?_ _) | (with_reducible refine Kd.C_drew ?_) | exact HR178.out)⟩, ⟨by repeat (first | (with_reducible first | exact HB.out | apply below_alloc | apply pw_below_drewN | apply below_drew1) | exact HB.out)⟩⟩
                            · rw [if_neg c40] at H
                              exact absurd H (by simp)
                          · rw [if_neg c39] at H
                            exact absurd H (by simp)
                        · rw [if_neg c38] at H
                          have c38b0 : decide (x111_3 < (t184.length : Int)) = false := decide_eq_false c38
                          clear c38
                          replace H := Option.bind_eq_some_iff.mp H
                          obtain ⟨t188, A420, H⟩ := H
                          replace H : (if t188 < 0 then (if t180 = 2 then (if t188 ≥ 0 then (if t180 = 0 then (rotalaw13_RingArcs.j3 k3 l0 a2 t157 t165 t166 t171 t172 x16_3 (t179 != t188)) else (rotalaw13_RingArcs.j3 k3 l0 a2 t157 t165 t166 t171 t172 x16_3 true)) else (rotalaw13_RingArcs.j3 k3 l0 a2 t157 t165 t166 t171 t172 x16_3 false)) else (rotalaw13_RingArcs.j3 k3 l0 a2 t157 t165 t166 t171 t172 x16_3 true)) else (if t188 ≥ 0 then (if t180 = 0 then (rotalaw13_RingArcs.j3 k3 l0 a2 t157 t165 t166 t171 t172 x16_3 (t179 != t188)) else (rotalaw13_RingArcs.j3 k3 l0 a2 t157 t165 t166 t171 t172 x16_3 true)) else (rotalaw13_RingArcs.j3 k3 l0 a2 t157 t165 t166 t171 t172 x16_3 false))) = some r := H
                          have A42 := Aside0.mk A420
                          clear A420
                          have HC43 := Aside0.mk H
                          clear H
                          go_upto_region 25 with (first | ((with_reducible refine gate_callee (f := 33) rfl ?_); refine goesL_ (some 125) rfl rfl Try.func33 (by kernel_rfl) rfl #[.slice A0 l0.length c0, .int .i64 a1, .int .i64 a2] rfl (by (try simp only [List.map_toArray, List.map_cons, List.map_nil]); first | done | rfl | (simp only [List.length_drop, List.length_take]; rfl)) ?_; (with_reducible refine (rotaref13_Fit.calls k3 _ _ l0 a1 a2 t188 _ ?side1 ?side2 A42.out).mono ?_); (case side1 => repeat (first | exact (Kd.C_below HR0.out HB.out) | (with_reducible refine Kd.C_alloc ?_ _) | (with_reducible refine Kd.C_drewN ?_ _) | (with_reducible refine Kd.C_drew ?_))); (case side2 => exact HC0.out); rintro e w44 ⟨rfl, hb⟩; refine ⟨_, rfl, ?_⟩; have n0_ := Aside0.mk (Kd.R_below (by (with_reducible repeat (first | apply Kd.R_alloc | apply Kd.R_drewN | apply Kd.R_drew)); exact HO_7.out) hb); have n1_ := Aside0.mk (Kd.R_below (by (with_reducible repeat (first | apply Kd.R_alloc | apply Kd.R_drewN | apply Kd.R_drew)); exact HO_11.out) hb); have n2_ := Aside0.mk (Kd.R_below (by (with_reducible repeat (first | apply Kd.R_alloc | apply Kd.R_drewN | apply Kd.R_drew)); exact HO_17.out) hb); have n3_ := Aside0.mk (Kd.C_below (by repeat (first | (with_reducible exact HR164.out) | (with_reducible refine Kd.C_alloc ?_ _) | (with_reducible refine Kd.C_drewN ?_ _) | (with_reducible refine Kd.C_drew ?_) | exact HR164.out)) hb); have n4_ := Aside0.mk (Kd.C_below (by repeat (first | (with_reducible exact HR170.out) | (with_reducible refine Kd.C_alloc ?_ _) | (with_reducible refine Kd.C_drewN ?_ _) | (with_reducible refine Kd.C_drew ?_) | exact HR170.out)) hb); have n5_ := Aside0.mk (Kd.C_below (by repeat (first | (with_reducible exact HR178.out) | (with_reducible refine Kd.C_alloc ?_ _) | (with_reducible refine Kd.C_drewN ?_ _) | (with_reducible refine Kd.C_drew ?_) | exact HR178.out)) hb); have n6_ := Aside0.mk (below_step (by repeat (first | (with_reducible first | exact HB.out | apply below_alloc | apply pw_below_drewN | apply below_drew1) | exact HB.out)) hb); clear HO_7; clear HO_11; clear HO_17; clear HR164; clear HR170; clear HR178; clear HB; have HO_7 := n0_; have HO_11 := n1_; have HO_17 := n2_; have HR164 := n3_; have HR170 := n4_; have HR178 := n5_; have HB := n6_; clear n0_ n1_ n2_ n3_ n4_ n5_ n6_; (try clear hb); (try clear hb2); (try clear hk); (try clear hi)))
                          (try simp only [Act.put, List.setIfInBounds_toArray, List.set_cons_zero, List.set_cons_succ])
                          go_cut [144] (fun v144 wc => ∃ (kq : Nat) (x144_42 : Bool), v144 = .bool x144_42 ∧ Aside0 (rotalaw13_RingArcs.j3 kq l0 a2 t157 t165 t166 t171 t172 x16_3 x144_42 = some r) ∧ Aside0 (kq ≤ k3) ∧ Aside0 (Kd.R k52 52 wc w.heap.size (fun k_ => some k_ ≠ (v173 : Value).ownBlock) (.slice Ao21 t157.length co21) t157) ∧ Aside0 (Kd.R k52 52 wc w.heap.size (fun k_ => some k_ ≠ ((.slice Ao21 t157.length co21) : Value).ownBlock) v173 t171) ∧ Aside0 (Kd.C k52 wc Ao21 y161.length y161) ∧ Aside0 (Kd.C k52 wc Ao21 y161.length y161) ∧ Aside0 (Kd.C k52 wc Ao21 y161.length y161) ∧ Aside0 (Below w.heap.size w wc))
                          case first =>
                            have H := HC43.out
                            clear HC43
                            by_cases c45 : t188 < 0
                            · rw [if_pos c45] at H
                              have c45b0 : decide (t188 < 0) = true := decide_eq_true c45
                              clear c45
                              (first | rw [c45b0] | (simp only [i64_w, i32_w]; rw [c45b0]) | skip)
                              by_cases c46 : t180 = 2
                              · rw [if_pos c46] at H
                                have c46b0 : (t180 == 2) = true := beq_iff_eq.mpr c46
                                have c46b1 : (t180 != 2) = false := bne_eq_false_iff_eq.mpr c46
                                clear c46
                                by_cases c47 : t188 ≥ 0
                                · rw [if_pos c47] at H
                                  have c47b0 : decide (0 ≤ t188) = true := decide_eq_true c47
                                  clear c47
                                  by_cases c48 : t180 = 0
                                  · rw [if_pos c48] at H
                                    have c48b0 : (t180 == 0) = true := beq_iff_eq.mpr c48
                                    have c48b1 : (t180 != 0) = false := bne_eq_false_iff_eq.mpr c48
                                    clear c48
                                    have H' := Aside0.mk H
                                    clear H
                                    go_wp2
                                    go_meet
                                    case rel => exact ⟨_, ((t179 != t188)), (by first | rfl | (simp; done) | (simp [*]; done)), H', ⟨by have := HJ3.out; have := HK2.out; have := HK3.out; first | omega | exact Nat.le_refl _⟩, ⟨by (with_reducible repeat (first | apply Kd.R_alloc | apply Kd.R_drewN | apply Kd.R_drew)); exact HO_7.out⟩, ⟨by (with_reducible repeat (first | apply Kd.R_alloc | apply Kd.R_drewN | apply Kd.R_drew)); exact HO_11.out⟩, ⟨by repeat (first | (with_reducible exact HR164.out) | (with_reducible refine Kd.C_alloc ?_ _) | (with_reducible refine Kd.C_drewN ?_ _) | (with_reducible refine Kd.C_drew ?_) | exact HR164.out)⟩, ⟨by repeat (first | (with_reducible exact HR170.out) | (with_reducible refine Kd.C_alloc ?_ _) | (with_reducible refine Kd.C_drewN ?_ _) | (with_reducible refine Kd.C_drew ?_) | exact HR170.out)⟩, ⟨by repeat (first | (with_reducible exact HR178.out) | (with_reducible refine Kd.C_alloc ?_ _) | (with_reducible refine Kd.C_drewN ?_ _) | (with_reducible refine Kd.C_drew ?_) | exact HR178.out)⟩, ⟨by repeat (first | (with_reducible first | exact HB.out | apply below_alloc | apply pw_below_drewN | apply below_drew1) | exact HB.out)⟩⟩
                                  · rw [if_neg c48] at H
                                    have c48b0 : (t180 == 0) = false := beq_eq_false_iff_ne.mpr c48
                                    have c48b1 : (t180 != 0) = true := bne_iff_ne.mpr c48
                                    have H' := Aside0.mk H
                                    clear H
                                    go_wp2
                                    go_meet
                                    case rel => exact ⟨_, (true), (by first | rfl | (simp; done) | (simp [*]; done)), H', ⟨by have := HJ3.out; have := HK2.out; have := HK3.out; first | omega | exact Nat.le_refl _⟩, ⟨by (with_reducible repeat (first | apply Kd.R_alloc | apply Kd.R_drewN | apply Kd.R_drew)); exact HO_7.out⟩, ⟨by (with_reducible repeat (first | apply Kd.R_alloc | apply Kd.R_drewN | apply Kd.R_drew)); exact HO_11.out⟩, ⟨by repeat (first | (with_reducible exact HR164.out) | (with_reducible refine Kd.C_alloc ?_ _) | (with_reducible refine Kd.C_drewN ?_ _) | (with_reducible refine Kd.C_drew ?_) | exact HR164.out)⟩, ⟨by repeat (first | (with_reducible exact HR170.out) | (with_reducible refine Kd.C_alloc ?_ _) | (with_reducible refine Kd.C_drewN ?_ _) | (with_reducible refine Kd.C_drew ?_) | exact HR170.out)⟩, ⟨by repeat (first | (with_reducible exact HR178.out) | (with_reducible refine Kd.C_alloc ?_ _) | (with_reducible refine Kd.C_drewN ?_ _) | (with_reducible refine Kd.C_drew ?_) | exact HR178.out)⟩, ⟨by repeat (first | (with_reducible first | exact HB.out | apply below_alloc | apply pw_below_drewN | apply below_drew1) | exact HB.out)⟩⟩
                                · rw [if_neg c47] at H
                                  have c47b0 : decide (0 ≤ t188) = false := decide_eq_false c47
                                  clear c47
                                  have H' := Aside0.mk H
                                  clear H
                                  go_wp2
                                  go_meet
                                  case rel => exact ⟨_, (false), (by first | rfl | (simp; done) | (simp [*]; done)), H', ⟨by have := HJ3.out; have := HK2.out; have := HK3.out; first | omega | exact Nat.le_refl _⟩, ⟨by (with_reducible repeat (first | apply Kd.R_alloc | apply Kd.R_drewN | apply Kd.R_drew)); exact HO_7.out⟩, ⟨by (with_reducible repeat (first | apply Kd.R_alloc | apply Kd.R_drewN | apply Kd.R_drew)); exact HO_11.out⟩, ⟨by repeat (first | (with_reducible exact HR164.out) | (with_reducible refine Kd.C_alloc ?_ _) | (with_reducible refine Kd.C_drewN ?_ _) | (with_reducible refine Kd.C_drew ?_) | exact HR164.out)⟩, ⟨by repeat (first | (with_reducible exact HR170.out) | (with_reducible refine Kd.C_alloc ?_ _) | (with_reducible refine Kd.C_drewN ?_ _) | (with_reducible refine Kd.C_drew ?_) | exact HR170.out)⟩, ⟨by repeat (first | (with_reducible exact HR178.out) | (with_reducible refine Kd.C_alloc ?_ _) | (with_reducible refine Kd.C_drewN ?_ _) | (with_reducible refine Kd.C_drew ?_) | exact HR178.out)⟩, ⟨by repeat (first | (with_reducible first | exact HB.out | apply below_alloc | apply pw_below_drewN | apply below_drew1) | exact HB.out)⟩⟩
                              · rw [if_neg c46] at H
                                have c46b0 : (t180 == 2) = false := beq_eq_false_iff_ne.mpr c46
                                have c46b1 : (t180 != 2) = true := bne_iff_ne.mpr c46
                                have H' := Aside0.mk H
                                clear H
                                go_wp2
                                go_meet
                                case rel => exact ⟨_, (true), (by first | rfl | (simp; done) | (simp [*]; done)), H', ⟨by have := HJ3.out; have := HK2.out; have := HK3.out; first | omega | exact Nat.le_refl _⟩, ⟨by (with_reducible repeat (first | apply Kd.R_alloc | apply Kd.R_drewN | apply Kd.R_drew)); exact HO_7.out⟩, ⟨by (with_reducible repeat (first | apply Kd.R_alloc | apply Kd.R_drewN | apply Kd.R_drew)); exact HO_11.out⟩, ⟨by repeat (first | (with_reducible exact HR164.out) | (with_reducible refine Kd.C_alloc ?_ _) | (with_reducible refine Kd.C_drewN ?_ _) | (with_reducible refine Kd.C_drew ?_) | exact HR164.out)⟩, ⟨by repeat (first | (with_reducible exact HR170.out) | (with_reducible refine Kd.C_alloc ?_ _) | (with_reducible refine Kd.C_drewN ?_ _) | (with_reducible refine Kd.C_drew ?_) | exact HR170.out)⟩, ⟨by repeat (first | (with_reducible exact HR178.out) | (with_reducible refine Kd.C_alloc ?_ _) | (with_reducible refine Kd.C_drewN ?_ _) | (with_reducible refine Kd.C_drew ?_) | exact HR178.out)⟩, ⟨by repeat (first | (with_reducible first | exact HB.out | apply below_alloc | apply pw_below_drewN | apply below_drew1) | exact HB.out)⟩⟩
                            · rw [if_neg c45] at H
                              have c45b0 : decide (t188 < 0) = false := decide_eq_false c45
                              clear c45
                              (first | rw [c45b0] | (simp only [i64_w, i32_w]; rw [c45b0]) | skip)
                              by_cases c49 : t188 ≥ 0
                              · rw [if_pos c49] at H
                                have c49b0 : decide (0 ≤ t188) = true := decide_eq_true c49
                                clear c49
                                by_cases c50 : t180 = 0
                                · rw [if_pos c50] at H
                                  have c50b0 : (t180 == 0) = true := beq_iff_eq.mpr c50
                                  have c50b1 : (t180 != 0) = false := bne_eq_false_iff_eq.mpr c50
                                  clear c50
                                  have H' := Aside0.mk H
                                  clear H
                                  go_wp2
                                  go_meet
                                  case rel => exact ⟨_, ((t179 != t188)), (by first | rfl | (simp; done) | (simp [*]; done)), H', ⟨by have := HJ3.out; have := HK2.out; have := HK3.out; first | omega | exact Nat.le_refl _⟩, ⟨by (with_reducible repeat (first | apply Kd.R_alloc | apply Kd.R_drewN | apply Kd.R_drew)); exact HO_7.out⟩, ⟨by (with_reducible repeat (first | apply Kd.R_alloc | apply Kd.R_drewN | apply Kd.R_drew)); exact HO_11.out⟩, ⟨by repeat (first | (with_reducible exact HR164.out) | (with_reducible refine Kd.C_alloc ?_ _) | (with_reducible refine Kd.C_drewN ?_ _) | (with_reducible refine Kd.C_drew ?_) | exact HR164.out)⟩, ⟨by repeat (first | (with_reducible exact HR170.out) | (with_reducible refine Kd.C_alloc ?_ _) | (with_reducible refine Kd.C_drewN ?_ _) | (with_reducible refine Kd.C_drew ?_) | exact HR170.out)⟩, ⟨by repeat (first | (with_reducible exact HR178.out) | (with_reducible refine Kd.C_alloc ?_ _) | (with_reducible refine Kd.C_drewN ?_ _) | (with_reducible refine Kd.C_drew ?_) | exact HR178.out)⟩, ⟨by repeat (first | (with_reducible first | exact HB.out | apply below_alloc | apply pw_below_drewN | apply below_drew1) | exact HB.out)⟩⟩
                                · rw [if_neg c50] at H
                                  have c50b0 : (t180 == 0) = false := beq_eq_false_iff_ne.mpr c50
                                  have c50b1 : (t180 != 0) = true := bne_iff_ne.mpr c50
                                  have H' := Aside0.mk H
                                  clear H
                                  go_wp2
                                  go_meet
                                  case rel => exact ⟨_, (true), (by first | rfl | (simp; done) | (simp [*]; done)), H', ⟨by have := HJ3.out; have := HK2.out; have := HK3.out; first | omega | exact Nat.le_refl _⟩, ⟨by (with_reducible repeat (first | apply Kd.R_alloc | apply Kd.R_drewN | apply Kd.R_drew)); exact HO_7.out⟩, ⟨by (with_reducible repeat (first | apply Kd.R_alloc | apply Kd.R_drewN | apply Kd.R_drew)); exact HO_11.out⟩, ⟨by repeat (first | (with_reducible exact HR164.out) | (with_reducible refine Kd.C_alloc ?_ _) | (with_reducible refine Kd.C_drewN ?_ _) | (with_reducible refine Kd.C_drew ?_) | exact HR164.out)⟩, ⟨by repeat (first | (with_reducible exact HR170.out) | (with_reducible refine Kd.C_alloc ?_ _) | (with_reducible refine Kd.C_drewN ?_ _) | (with_reducible refine Kd.C_drew ?_) | exact HR170.out)⟩, ⟨by repeat (first | (with_reducible exact HR178.out) | (with_reducible refine Kd.C_alloc ?_ _) | (with_reducible refine Kd.C_drewN ?_ _) | (with_reducible refine Kd.C_drew ?_) | exact HR178.out)⟩, ⟨by repeat (first | (with_reducible first | exact HB.out | apply below_alloc | apply pw_below_drewN | apply below_drew1) | exact HB.out)⟩⟩
                              · rw [if_neg c49] at H
                                have c49b0 : decide (0 ≤ t188) = false := decide_eq_false c49
                                clear c49
                                have H' := Aside0.mk H
                                clear H
                                go_wp2
                                go_meet
                                case rel => exact ⟨_, (false), (by first | rfl | (simp; done) | (simp [*]; done)), H', ⟨by have := HJ3.out; have := HK2.out; have := HK3.out; first | omega | exact Nat.le_refl _⟩, ⟨by (with_reducible repeat (first | apply Kd.R_alloc | apply Kd.R_drewN | apply Kd.R_drew)); exact HO_7.out⟩, ⟨by (with_reducible repeat (first | apply Kd.R_alloc | apply Kd.R_drewN | apply Kd.R_drew)); exact HO_11.out⟩, ⟨by repeat (first | (with_reducible exact HR164.out) | (with_reducible refine Kd.C_alloc ?_ _) | (with_reducible refine Kd.C_drewN ?_ _) | (with_reducible refine Kd.C_drew ?_) | exact HR164.out)⟩, ⟨by repeat (first | (with_reducible exact HR170.out) | (with_reducible refine Kd.C_alloc ?_ _) | (with_reducible refine Kd.C_drewN ?_ _) | (with_reducible refine Kd.C_drew ?_) | exact HR170.out)⟩, ⟨by repeat (first | (with_reducible exact HR178.out) | (with_reducible refine Kd.C_alloc ?_ _) | (with_reducible refine Kd.C_drewN ?_ _) | (with_reducible refine Kd.C_drew ?_) | exact HR178.out)⟩, ⟨by repeat (first | (with_reducible first | exact HB.out | apply below_alloc | apply pw_below_drewN | apply below_drew1) | exact HB.out)⟩⟩
                          case rest => as_aux_lemma =>
                            clear HC43
                            try clear c1
                            try clear p1
                            try clear q1
                            try clear hx1
                            try clear c2
                            try clear p2
                            try clear q2
                            try clear c3
                            try clear c4
                            try clear c5
                            try clear c5b0
                            try clear c6
                            try clear c6b0
                            try clear p6
                            try clear c7
                            try clear c8
                            try clear c10
                            try clear c10b0
                            try clear c10b1
                            try clear c11
                            try clear c11b0
                            try clear c11b1
                            try clear c13
                            try clear c13b0
                            try clear c14
                            try clear c14b0
                            try clear c16
                            try clear c16b0
                            try clear c17
                            try clear c17b0
                            try clear p18
                            try clear q18
                            try clear hx18
                            try clear q20
                            try clear q23
                            try clear q25
                            try clear c27
                            try clear c27b0
                            try clear c28
                            try clear c28b0
                            try clear c29
                            try clear c29b0
                            try clear c30
                            try clear c30b0
                            try clear c31
                            try clear c31b0
                            try clear c32
                            try clear c33
                            try clear c34
                            try clear c38
                            try clear c38b0
                            try clear c39
                            try clear c39b0
                            try clear c40
                            try clear c40b0
                            try clear c41
                            try clear c41b0
                            try clear c45
                            try clear c45b0
                            try clear c46
                            try clear c46b0
                            try clear c46b1
                            try clear c47
                            try clear c47b0
                            try clear c48
                            try clear c48b0
                            try clear c48b1
                            try clear c49
                            try clear c49b0
                            try clear c50
                            try clear c50b0
                            try clear c50b1
                            try clear hx181_0
                            try clear hx181_1
                            try clear hx182_0
                            try clear hx182_1
                            try clear hx187_0
                            try clear p1
                            try clear p18
                            try clear p181
                            try clear p182
                            try clear p187
                            try clear p2
                            try clear p6
                            try clear q1
                            try clear q18
                            try clear q181
                            try clear q182
                            try clear q187
                            try clear q2
                            try clear q20
                            try clear q23
                            try clear q25
                            obtain ⟨kq, x144_42, rfl, HA, HJ42, HO_7, HO_11, HR164, HR170, HR178, HB⟩ := hcut
                            cases kq with
                            | zero => exact absurd HA.out (by simp [rotalaw13_RingArcs.j3])
                            | succ kj42 =>
                              have H := HA.out
                              clear HA
                              simp only [rotalaw13_RingArcs.j3] at H
                              by_cases c51 : x144_42 = true
                              · subst c51
                                have H1 : (some false) = some r := by rw [if_pos rfl] at H; exact H
                                clear H
                                have H := H1
                                clear H1
                                obtain rfl := Option.some.inj H
                                go_wp2
                                go_ret
                                exact ⟨by first | rfl | (simp [errW_none, errW_some] <;> rfl) | (simp [*, errW_none, errW_some] <;> rfl), by repeat (first | (with_reducible first | exact HB.out | apply below_alloc | apply pw_below_drewN | apply below_drew1) | exact HB.out)⟩
                              · replace c51 := Bool.eq_false_iff.mpr c51
                                subst c51
                                have H1 : (rotalaw13_RingArcs.l2 kj42 l0 a2 t157 t165 t166 t171 t172 x16_3 1) = some r := by rw [if_neg (show ¬ (false = true) by decide)] at H; exact H
                                clear H
                                have H := H1
                                clear H1
                                have H' := Aside0.mk H
                                clear H
                                go_wp2
                                go_loopg [20] kj42 (fun kq v20 w' => ∃ (x20_5 : Int), v20 = .int .i64 x20_5 ∧ Aside0 (rotalaw13_RingArcs.l2 kq l0 a2 t157 t165 t166 t171 t172 x16_3 x20_5 = some r) ∧ Aside0 (kq ≤ kj42) ∧ Aside0 (Kd.R k52 52 w' w.heap.size (fun k_ => some k_ ≠ (v173 : Value).ownBlock) (.slice Ao21 t157.length co21) t157) ∧ Aside0 (Kd.R k52 52 w' w.heap.size (fun k_ => some k_ ≠ ((.slice Ao21 t157.length co21) : Value).ownBlock) v173 t171) ∧ Aside0 (Kd.C k52 w' Ao21 y161.length y161) ∧ Aside0 (Kd.C k52 w' Ao21 y161.length y161) ∧ Aside0 (Kd.C k52 w' Ao21 y161.length y161) ∧ Aside0 (Below w.heap.size w w'))
                                case atStart => exact ⟨(1), (by first | rfl | (simp; done) | (simp [*]; done)), H', ⟨Nat.le_refl _⟩, ⟨by (with_reducible repeat (first | apply Kd.R_alloc | apply Kd.R_drewN | apply Kd.R_drew)); exact HO_7.out⟩, ⟨by (with_reducible repeat (first | apply Kd.R_alloc | apply Kd.R_drewN | apply Kd.R_drew)); exact HO_11.out⟩, ⟨by repeat (first | (with_reducible exact HR164.out) | (with_reducible refine Kd.C_alloc ?_ _) | (with_reducible refine Kd.C_drewN ?_ _) | (with_reducible refine Kd.C_drew ?_) | exact HR164.out)⟩, ⟨by repeat (first | (with_reducible exact HR170.out) | (with_reducible refine Kd.C_alloc ?_ _) | (with_reducible refine Kd.C_drewN ?_ _) | (with_reducible refine Kd.C_drew ?_) | exact HR170.out)⟩, ⟨by repeat (first | (with_reducible exact HR178.out) | (with_reducible refine Kd.C_alloc ?_ _) | (with_reducible refine Kd.C_drewN ?_ _) | (with_reducible refine Kd.C_drew ?_) | exact HR178.out)⟩, ⟨by repeat (first | (with_reducible first | exact HB.out | apply below_alloc | apply pw_below_drewN | apply below_drew1) | exact HB.out)⟩⟩
                                case round => as_aux_lemma =>
                                  clear H'
                                  try clear c1
                                  try clear p1
                                  try clear q1
                                  try clear hx1
                                  try clear c2
                                  try clear p2
                                  try clear q2
                                  try clear c3
                                  try clear c4
                                  try clear c5
                                  try clear c5b0
                                  try clear c6
                                  try clear c6b0
                                  try clear p6
                                  try clear c7
                                  try clear c8
                                  try clear c10
                                  try clear c10b0
                                  try clear c10b1
                                  try clear c11
                                  try clear c11b0
                                  try clear c11b1
                                  try clear c13
                                  try clear c13b0
                                  try clear c14
                                  try clear c14b0
                                  try clear c16
                                  try clear c16b0
                                  try clear c17
                                  try clear c17b0
                                  try clear p18
                                  try clear q18
                                  try clear hx18
                                  try clear q20
                                  try clear q23
                                  try clear q25
                                  try clear c27
                                  try clear c27b0
                                  try clear c28
                                  try clear c28b0
                                  try clear c29
                                  try clear c29b0
                                  try clear c30
                                  try clear c30b0
                                  try clear c31
                                  try clear c31b0
                                  try clear c32
                                  try clear c33
                                  try clear c34
                                  try clear c38
                                  try clear c38b0
                                  try clear c39
                                  try clear c39b0
                                  try clear c40
                                  try clear c40b0
                                  try clear c41
                                  try clear c41b0
                                  try clear c45
                                  try clear c45b0
                                  try clear c46
                                  try clear c46b0
                                  try clear c46b1
                                  try clear c47
                                  try clear c47b0
                                  try clear c48
                                  try clear c48b0
                                  try clear c48b1
                                  try clear c49
                                  try clear c49b0
                                  try clear c50
                                  try clear c50b0
                                  try clear c50b1
                                  try clear c51
                                  try clear hx181_0
                                  try clear hx181_1
                                  try clear hx182_0
                                  try clear hx182_1
                                  try clear hx187_0
                                  try clear p1
                                  try clear p18
                                  try clear p181
                                  try clear p182
                                  try clear p187
                                  try clear p2
                                  try clear p6
                                  try clear q1
                                  try clear q18
                                  try clear q181
                                  try clear q182
                                  try clear q187
                                  try clear q2
                                  try clear q20
                                  try clear q23
                                  try clear q25
                                  obtain ⟨x20_5, rfl, HA, HK5, HO_7, HO_11, HR164, HR170, HR178, HB⟩ := hrel
                                  cases gk with
                                  | zero => exact absurd HA.out (by simp [rotalaw13_RingArcs.l2])
                                  | succ k5 =>
                                    have H := HA.out
                                    clear HA
                                    simp only [rotalaw13_RingArcs.l2] at H
                                    by_cases c52 : x20_5 < (l0.length : Int)
                                    · rw [if_pos c52] at H
                                      have c52b0 : decide (x20_5 < (l0.length : Int)) = true := decide_eq_true c52
                                      clear c52
                                      by_cases c53 : 0 < (l0.length : Int)
                                      · rw [if_pos c53] at H
                                        have c53b0 : decide (0 < (l0.length : Int)) = true := decide_eq_true c53
                                        have c53b1 : decide (0 < l0.length) = true := decide_eq_true (by omega)
                                        clear c53
                                        by_cases c54 : 0 ≤ x20_5
                                        · rw [if_pos c54] at H
                                          have c54b0 : decide (0 ≤ x20_5) = true := decide_eq_true c54
                                          clear c54
                                          replace H := Option.bind_eq_some_iff.mp H
                                          obtain ⟨⟨t196, t197⟩, A550, H⟩ := H
                                          replace H : ((rotaref13_Taken.f k5 (([(⟨(rd_T52 l0 0).f0, (rd_T52 l0 0).f1⟩ : S52), (⟨(rd_T52 l0 x20_5).f0, (rd_T52 l0 x20_5).f1⟩ : S52)] : List (S52))) a2).bind fun t203 => (rotalaw13_RingArcs.l3 k5 l0 a2 t157 t165 t166 t171 t172 x16_3 x20_5 t196 t197 t203 false (t203.length : Int) 0)) = some r := H
                                          have A55 := Aside0.mk A550
                                          clear A550
                                          obtain ⟨y200, hy200⟩ : ∃ y_ : List (S52), y_ = (([(⟨(rd_T52 l0 0).f0, (rd_T52 l0 0).f1⟩ : S52), (⟨(rd_T52 l0 x20_5).f0, (rd_T52 l0 x20_5).f1⟩ : S52)] : List (S52))) := ⟨_, rfl⟩
                                          replace H : ((rotaref13_Taken.f k5 y200 a2).bind fun t203 => (rotalaw13_RingArcs.l3 k5 l0 a2 t157 t165 t166 t171 t172 x16_3 x20_5 t196 t197 t203 false (t203.length : Int) 0)) = some r := by first | (rw [hy200]; with_reducible exact H) | (have H2_ := (Option.bind_some _ _).symm.trans H; rw [hy200]; with_reducible exact H2_) | (have H2_ := (Option.bind_some _ _).symm.trans H; with_reducible exact H2_) | with_reducible exact H | (rw [hy200]; exact H) | exact H
                                          have Ny200 := Aside0.mk hy200
                                          clear hy200
                                          replace H := Option.bind_eq_some_iff.mp H
                                          obtain ⟨t203, A560, H⟩ := H
                                          replace H : (rotalaw13_RingArcs.l3 k5 l0 a2 t157 t165 t166 t171 t172 x16_3 x20_5 t196 t197 t203 false (t203.length : Int) 0) = some r := H
                                          have A56 := Aside0.mk A560
                                          clear A560
                                          have H' := Aside0.mk H
                                          clear H
                                          try go_wp2
                                          have n0_ := Aside0.mk (Kd.R_drew HO_7.out)
                                          have n1_ := Aside0.mk (Kd.R_drew HO_11.out)
                                          have n2_ := Aside0.mk (Kd.C_drew HR164.out)
                                          have n3_ := Aside0.mk (Kd.C_drew HR170.out)
                                          have n4_ := Aside0.mk (Kd.C_drew HR178.out)
                                          have n5_ := Aside0.mk (below_drew1 HB.out)
                                          clear HO_7
                                          clear HO_11
                                          clear HR164
                                          clear HR170
                                          clear HR178
                                          clear HB
                                          have HO_7 := n0_
                                          have HO_11 := n1_
                                          have HR164 := n2_
                                          have HR170 := n3_
                                          have HR178 := n4_
                                          have HB := n5_
                                          clear n0_ n1_ n2_ n3_ n4_ n5_
                                          have p194 : 0 ≤ (0 : Int) := (by omega)
                                          have q194 : 0 < (l0.length : Int) := of_decide_eq_true (by first | (with_reducible assumption) | assumption)
                                          obtain ⟨ad194, e194, hx194_0, hx194_1⟩ := at_T52 HR0.out 0 p194 q194
                                          have hw194_1 := hx194_1
                                          (try rw [show ((0 : Int)).toNat = 0 from rfl] at hw194_1)
                                          (try rw [show 0 * 2 = 0 from rfl] at hw194_1)
                                          (try rw [Addr.add_zero'] at hw194_1)
                                          have hw194_0 := hx194_0
                                          (try rw [show ((0 : Int)).toNat = 0 from rfl] at hw194_0)
                                          (try rw [show 0 * 2 = 0 from rfl] at hw194_0)
                                          (try rw [Addr.add_zero'] at hw194_0)
                                          cases e194
                                          have qi194 : (0 < l0.length) = True := eq_true (by omega)
                                          (try rw [show ((0 : Int)).toNat = 0 from rfl] at hx194_0)
                                          (try rw [show 0 * 2 = 0 from rfl] at hx194_0)
                                          (try rw [Addr.add_zero'] at hx194_0)
                                          (try rw [show ((0 : Int)).toNat = 0 from rfl] at hx194_1)
                                          (try rw [show 0 * 2 = 0 from rfl] at hx194_1)
                                          (try rw [Addr.add_zero'] at hx194_1)
                                          replace hx194_0 := (HB.out.cell (World.block_lt_of_cell? w _ hx194_0)).trans hx194_0
                                          replace hx194_1 := (HB.out.cell (World.block_lt_of_cell? w _ hx194_1)).trans hx194_1
                                          replace p194 := eq_true p194
                                          replace q194 := eq_true q194
                                          have p195 : 0 ≤ (x20_5 : Int) := of_decide_eq_true (by first | (with_reducible assumption) | assumption)
                                          have q195 : x20_5 < (l0.length : Int) := of_decide_eq_true (by first | (with_reducible assumption) | assumption)
                                          obtain ⟨ad195, e195, hx195_0, hx195_1⟩ := at_T52 HR0.out x20_5 p195 q195
                                          have hw195_1 := hx195_1
                                          have hw195_0 := hx195_0
                                          obtain rfl : ad194 = ad195 := (by injection e195)
                                          replace hx195_0 := (HB.out.cell (World.block_lt_of_cell? w _ hx195_0)).trans hx195_0
                                          replace hx195_1 := (HB.out.cell (World.block_lt_of_cell? w _ hx195_1)).trans hx195_1
                                          replace p195 := eq_true p195
                                          replace q195 := eq_true q195
                                          refine start_ (n := 14) (S := fun w' => w'.cell? ad194 = some (.int .i64 ((rd_T52 l0 0).f0)) ∧ w'.cell? ⟨ad194.block, ad194.off + 1, none⟩ = some (.int .i64 ((rd_T52 l0 0).f1)) ∧ w'.cell? (ad194.add ((x20_5).toNat * 2)) = some (.int .i64 ((rd_T52 l0 x20_5).f0)) ∧ w'.cell? ⟨(ad194.add ((x20_5).toNat * 2)).block, (ad194.add ((x20_5).toNat * 2)).off + 1, none⟩ = some (.int .i64 ((rd_T52 l0 x20_5).f1))) (ds := []) #[false, false, false, false, false, false, false, false, false, false, false, false, false, false] (by kernel_rfl) rfl rfl ⟨((HB.out.cell (World.block_lt_of_cell? w _ hw194_0)).trans hw194_0), ((HB.out.cell (World.block_lt_of_cell? w _ hw194_1)).trans hw194_1), ((HB.out.cell (World.block_lt_of_cell? w _ hw195_0)).trans hw195_0), ((HB.out.cell (World.block_lt_of_cell? w _ hw195_1)).trans hw195_1)⟩ (fun hHeld => ?_); refine with_tabW rotalaw13_RingArcs.tab30 rotalaw13_RingArcs.bits30 (fun HT_ HW_ => ?_)
                                          generalize wr.drew = w57 at HO_7 HO_11 HR164 HR170 HR178 HB hx194_0 hx194_1 hx195_0 hx195_1 hHeld ⊢
                                          refine pure_ (i := 0) (N := some 152) (v := ?_) (a' := ?_) #[true, false, false, false, false, false, false, false, false, false, false, false, false, false] rfl rfl (any_of HT_.out (by kernel_rfl)) (fun _ _ _ h => h) (Or.inl ⟨by rfl, ?_⟩) ?_ ?_
                                          rotate_left
                                          · intro w'
                                            go_simp
                                            with_reducible rfl
                                          rotate_left
                                          · simp only [Act.put, List.setIfInBounds_toArray, List.set_cons_zero, List.set_cons_succ, i64_w, i32_w]
                                            rfl
                                          refine pure_ (i := 1) (N := some 153) (v := ?_) (a' := ?_) #[true, true, false, false, false, false, false, false, false, false, false, false, false, false] rfl rfl (any_of HT_.out (by kernel_rfl)) (fun _ _ _ h => h) (Or.inl ⟨by rfl, ?_⟩) ?_ ?_
                                          rotate_left
                                          · intro w'
                                            go_simp
                                            with_reducible rfl
                                          rotate_left
                                          · simp only [Act.put, List.setIfInBounds_toArray, List.set_cons_zero, List.set_cons_succ, i64_w, i32_w]
                                            rfl
                                          refine pure_ (i := 3) (N := some 155) (v := ?_) (a' := ?_) #[true, true, false, true, false, false, false, false, false, false, false, false, false, false] rfl rfl (any_of HT_.out (by kernel_rfl)) (fun _ _ _ h => h) (Or.inl ⟨by rfl, ?_⟩) ?_ ?_
                                          rotate_left
                                          · intro w'
                                            go_simp
                                            with_reducible rfl
                                          rotate_left
                                          · simp only [Act.put, List.setIfInBounds_toArray, List.set_cons_zero, List.set_cons_succ, i64_w, i32_w]
                                            rfl
                                          refine pure_ (i := 4) (N := some 156) (v := ?_) (a' := ?_) #[true, true, false, true, true, false, false, false, false, false, false, false, false, false] rfl rfl (any_of HT_.out (by kernel_rfl)) (fun _ _ _ h => h) (Or.inl ⟨by rfl, ?_⟩) ?_ ?_
                                          rotate_left
                                          · intro w'
                                            go_simp
                                            with_reducible rfl
                                          rotate_left
                                          · simp only [Act.put, List.setIfInBounds_toArray, List.set_cons_zero, List.set_cons_succ, i64_w, i32_w]
                                            rfl
                                          refine pure_ (i := 5) (N := some 157) (v := ?_) (a' := ?_) #[true, true, false, true, true, true, false, false, false, false, false, false, false, false] rfl rfl (any_of HT_.out (by kernel_rfl)) (fun _ _ _ h => h) (Or.inl ⟨by rfl, ?_⟩) ?_ ?_
                                          rotate_left
                                          · intro w'
                                            go_simp
                                            with_reducible rfl
                                          rotate_left
                                          · simp only [Act.put, List.setIfInBounds_toArray, List.set_cons_zero, List.set_cons_succ, i64_w, i32_w]
                                            rfl
                                          refine pure_ (i := 7) (N := some 159) (v := ?_) (a' := ?_) #[true, true, false, true, true, true, false, true, false, false, false, false, false, false] rfl rfl (any_of HT_.out (by kernel_rfl)) (fun _ _ _ h => h) (Or.inl ⟨by rfl, ?_⟩) ?_ ?_
                                          rotate_left
                                          · intro w'
                                            go_simp
                                            with_reducible rfl
                                          rotate_left
                                          · simp only [Act.put, List.setIfInBounds_toArray, List.set_cons_zero, List.set_cons_succ, i64_w, i32_w]
                                            rfl
                                          refine take_ (i := 2) (N := some 154) (v := ?_) (a' := ?_) #[true, true, true, true, true, true, false, true, false, false, false, false, false, false] rfl rfl (take_ofW HT_.out HW_.out (by kernel_rfl)) (fun _ _ _ h => h) (Or.inl ⟨by rfl, ?_⟩) hHeld ?_ ?_
                                          rotate_left
                                          · rintro w' ⟨s0, s1, s2, s3⟩
                                            go_simp
                                            with_reducible rfl
                                          rotate_left
                                          · simp only [Act.put, List.setIfInBounds_toArray, List.set_cons_zero, List.set_cons_succ, i64_w, i32_w]
                                            rfl
                                          refine take_ (i := 6) (N := some 158) (v := ?_) (a' := ?_) #[true, true, true, true, true, true, true, true, false, false, false, false, false, false] rfl rfl (take_ofW HT_.out HW_.out (by kernel_rfl)) (fun _ _ _ h => h) (Or.inl ⟨by rfl, ?_⟩) hHeld ?_ ?_
                                          rotate_left
                                          · rintro w' ⟨s0, s1, s2, s3⟩
                                            go_simp
                                            with_reducible rfl
                                          rotate_left
                                          · simp only [Act.put, List.setIfInBounds_toArray, List.set_cons_zero, List.set_cons_succ, i64_w, i32_w]
                                            rfl
                                          refine one_ (i := 8) (N := some 160) #[true, true, true, true, true, true, true, true, true, false, false, false, false, false] rfl rfl (one_of HT_.out (by kernel_rfl)) (by decide) (fun K hK => ?_)
                                          refine goes_ Try.func29 (by kernel_rfl) rfl #[.agg #[.int .i64 ((rd_T52 l0 0).f0), .int .i64 ((rd_T52 l0 0).f1)], .agg #[.int .i64 ((rd_T52 l0 x20_5).f0), .int .i64 ((rd_T52 l0 x20_5).f1)], .int .i64 a2] (by rfl) rfl rfl (by (try simp only [List.map_toArray, List.map_cons, List.map_nil]); first | done | rfl | (simp only [List.length_drop, List.length_take]; rfl)) ?_
                                          with_reducible refine (ring_Meet.calls k5 ((rd_T52 l0 0).f0) ((rd_T52 l0 0).f1) ((rd_T52 l0 x20_5).f0) ((rd_T52 l0 x20_5).f1) a2 t196 t197 _ A55.out).mono ?_
                                          rintro e w58 ⟨rfl, hb⟩
                                          refine ⟨_, rfl, ?_⟩
                                          have n0_ := Aside0.mk (Kd.R_below (by (with_reducible repeat (first | apply Kd.R_alloc | apply Kd.R_drewN | apply Kd.R_drew)); exact HO_7.out) hb)
                                          have n1_ := Aside0.mk (Kd.R_below (by (with_reducible repeat (first | apply Kd.R_alloc | apply Kd.R_drewN | apply Kd.R_drew)); exact HO_11.out) hb)
                                          have n2_ := Aside0.mk (Kd.C_below (by repeat (first | (with_reducible exact HR164.out) | (with_reducible refine Kd.C_alloc ?_ _) | (with_reducible refine Kd.C_drewN ?_ _) | (with_reducible refine Kd.C_drew ?_) | exact HR164.out)) hb)
                                          have n3_ := Aside0.mk (Kd.C_below (by repeat (first | (with_reducible exact HR170.out) | (with_reducible refine Kd.C_alloc ?_ _) | (with_reducible refine Kd.C_drewN ?_ _) | (with_reducible refine Kd.C_drew ?_) | exact HR170.out)) hb)
                                          have n4_ := Aside0.mk (Kd.C_below (by repeat (first | (with_reducible exact HR178.out) | (with_reducible refine Kd.C_alloc ?_ _) | (with_reducible refine Kd.C_drewN ?_ _) | (with_reducible refine Kd.C_drew ?_) | exact HR178.out)) hb)
                                          have n5_ := Aside0.mk (below_step (by repeat (first | (with_reducible first | exact HB.out | apply below_alloc | apply pw_below_drewN | apply below_drew1) | exact HB.out)) hb)
                                          clear HO_7
                                          clear HO_11
                                          clear HR164
                                          clear HR170
                                          clear HR178
                                          clear HB
                                          have HO_7 := n0_
                                          have HO_11 := n1_
                                          have HR164 := n2_
                                          have HR170 := n3_
                                          have HR178 := n4_
                                          have HB := n5_
                                          clear n0_ n1_ n2_ n3_ n4_ n5_
                                          (try clear hb)
                                          (try clear hb2)
                                          (try clear hk)
                                          (try clear hi)
                                          refine hK.out _ _ ⟨((HB.out.cell (World.block_lt_of_cell? w _ hw194_0)).trans hw194_0), ((HB.out.cell (World.block_lt_of_cell? w _ hw194_1)).trans hw194_1), ((HB.out.cell (World.block_lt_of_cell? w _ hw195_0)).trans hw195_0), ((HB.out.cell (World.block_lt_of_cell? w _ hw195_1)).trans hw195_1)⟩ (fun hHeld => ?_)
                                          clear hK K
                                          refine norm_ (a' := ?_) ?_ ?_
                                          rotate_left
                                          · show Act.put _ (some 160) _ = _
                                            simp only [Act.put, List.setIfInBounds_toArray, List.set_cons_zero, List.set_cons_succ, i64_w, i32_w]
                                            rfl
                                          refine pure_ (i := 9) (N := some 151) (v := ?_) (a' := ?_) #[true, true, true, true, true, true, true, true, true, true, false, false, false, false] rfl rfl (any_of HT_.out (by kernel_rfl)) (fun _ _ _ h => h) (Or.inl ⟨by rfl, ?_⟩) ?_ ?_
                                          rotate_left
                                          · intro w'
                                            go_simp
                                            with_reducible rfl
                                          rotate_left
                                          · simp only [Act.put, List.setIfInBounds_toArray, List.set_cons_zero, List.set_cons_succ, i64_w, i32_w]
                                            rfl
                                          refine pure_ (i := 10) (N := some 161) (v := ?_) (a' := ?_) #[true, true, true, true, true, true, true, true, true, true, true, false, false, false] rfl rfl (any_of HT_.out (by kernel_rfl)) (fun _ _ _ h => h) (Or.inl ⟨by rfl, ?_⟩) ?_ ?_
                                          rotate_left
                                          · intro w'
                                            go_simp
                                            with_reducible rfl
                                          rotate_left
                                          · simp only [Act.put, List.setIfInBounds_toArray, List.set_cons_zero, List.set_cons_succ, i64_w, i32_w]
                                            rfl
                                          refine pure_ (i := 11) (N := some 162) (v := ?_) (a' := ?_) #[true, true, true, true, true, true, true, true, true, true, true, true, false, false] rfl rfl (any_of HT_.out (by kernel_rfl)) (fun _ _ _ h => h) (Or.inl ⟨by rfl, ?_⟩) ?_ ?_
                                          rotate_left
                                          · intro w'
                                            go_simp
                                            with_reducible rfl
                                          rotate_left
                                          · simp only [Act.put, List.setIfInBounds_toArray, List.set_cons_zero, List.set_cons_succ, i64_w, i32_w]
                                            rfl
                                          refine pure_ (i := 12) (N := some 21) (v := ?_) (a' := ?_) #[true, true, true, true, true, true, true, true, true, true, true, true, true, false] rfl rfl (any_of HT_.out (by kernel_rfl)) (fun _ _ _ h => h) (Or.inl ⟨by rfl, ?_⟩) ?_ ?_
                                          rotate_left
                                          · intro w'
                                            go_simp
                                            with_reducible rfl
                                          rotate_left
                                          · simp only [Act.put, List.setIfInBounds_toArray, List.set_cons_zero, List.set_cons_succ, i64_w, i32_w]
                                            rfl
                                          refine pure_ (i := 13) (N := some 22) (v := ?_) (a' := ?_) #[true, true, true, true, true, true, true, true, true, true, true, true, true, true] rfl rfl (any_of HT_.out (by kernel_rfl)) (fun _ _ _ h => h) (Or.inl ⟨by rfl, ?_⟩) ?_ ?_
                                          rotate_left
                                          · intro w'
                                            go_simp
                                            with_reducible rfl
                                          rotate_left
                                          · simp only [Act.put, List.setIfInBounds_toArray, List.set_cons_zero, List.set_cons_succ, i64_w, i32_w]
                                            rfl
                                          refine done_ (done_of HT_.out (by kernel_rfl)) ?_
                                          try go_wp2
                                          have n0_ := Aside0.mk (Kd.R_drew HO_7.out)
                                          have n1_ := Aside0.mk (Kd.R_drew HO_11.out)
                                          have n2_ := Aside0.mk (Kd.C_drew HR164.out)
                                          have n3_ := Aside0.mk (Kd.C_drew HR170.out)
                                          have n4_ := Aside0.mk (Kd.C_drew HR178.out)
                                          have n5_ := Aside0.mk (below_drew1 HB.out)
                                          clear HO_7
                                          clear HO_11
                                          clear HR164
                                          clear HR170
                                          clear HR178
                                          clear HB
                                          have HO_7 := n0_
                                          have HO_11 := n1_
                                          have HR164 := n2_
                                          have HR170 := n3_
                                          have HR178 := n4_
                                          have HB := n5_
                                          clear n0_ n1_ n2_ n3_ n4_ n5_
                                          have p198 : 0 ≤ (0 : Int) := (by omega)
                                          have q198 : 0 < (l0.length : Int) := of_decide_eq_true (by first | (with_reducible assumption) | assumption)
                                          obtain ⟨ad198, e198, hx198_0, hx198_1⟩ := at_T52 HR0.out 0 p198 q198
                                          have hw198_1 := hx198_1
                                          (try rw [show ((0 : Int)).toNat = 0 from rfl] at hw198_1)
                                          (try rw [show 0 * 2 = 0 from rfl] at hw198_1)
                                          (try rw [Addr.add_zero'] at hw198_1)
                                          have hw198_0 := hx198_0
                                          (try rw [show ((0 : Int)).toNat = 0 from rfl] at hw198_0)
                                          (try rw [show 0 * 2 = 0 from rfl] at hw198_0)
                                          (try rw [Addr.add_zero'] at hw198_0)
                                          obtain rfl : ad194 = ad198 := (by injection e198)
                                          have qi198 : (0 < l0.length) = True := eq_true (by omega)
                                          (try rw [show ((0 : Int)).toNat = 0 from rfl] at hx198_0)
                                          (try rw [show 0 * 2 = 0 from rfl] at hx198_0)
                                          (try rw [Addr.add_zero'] at hx198_0)
                                          (try rw [show ((0 : Int)).toNat = 0 from rfl] at hx198_1)
                                          (try rw [show 0 * 2 = 0 from rfl] at hx198_1)
                                          (try rw [Addr.add_zero'] at hx198_1)
                                          replace hx198_0 := (HB.out.cell (World.block_lt_of_cell? w _ hx198_0)).trans hx198_0
                                          replace hx198_1 := (HB.out.cell (World.block_lt_of_cell? w _ hx198_1)).trans hx198_1
                                          replace p198 := eq_true p198
                                          replace q198 := eq_true q198
                                          have p199 : 0 ≤ (x20_5 : Int) := of_decide_eq_true (by first | (with_reducible assumption) | assumption)
                                          have q199 : x20_5 < (l0.length : Int) := of_decide_eq_true (by first | (with_reducible assumption) | assumption)
                                          obtain ⟨ad199, e199, hx199_0, hx199_1⟩ := at_T52 HR0.out x20_5 p199 q199
                                          have hw199_1 := hx199_1
                                          have hw199_0 := hx199_0
                                          obtain rfl : ad194 = ad199 := (by injection e199)
                                          replace hx199_0 := (HB.out.cell (World.block_lt_of_cell? w _ hx199_0)).trans hx199_0
                                          replace hx199_1 := (HB.out.cell (World.block_lt_of_cell? w _ hx199_1)).trans hx199_1
                                          replace p199 := eq_true p199
                                          replace q199 := eq_true q199
                                          refine start_ (n := 11) (S := fun w' => w'.cell? ad194 = some (.int .i64 ((rd_T52 l0 0).f0)) ∧ w'.cell? ⟨ad194.block, ad194.off + 1, none⟩ = some (.int .i64 ((rd_T52 l0 0).f1)) ∧ w'.cell? (ad194.add ((x20_5).toNat * 2)) = some (.int .i64 ((rd_T52 l0 x20_5).f0)) ∧ w'.cell? ⟨(ad194.add ((x20_5).toNat * 2)).block, (ad194.add ((x20_5).toNat * 2)).off + 1, none⟩ = some (.int .i64 ((rd_T52 l0 x20_5).f1))) (ds := []) #[false, false, false, false, false, false, false, false, false, false, false] (by kernel_rfl) rfl rfl ⟨((HB.out.cell (World.block_lt_of_cell? w _ hw198_0)).trans hw198_0), ((HB.out.cell (World.block_lt_of_cell? w _ hw198_1)).trans hw198_1), ((HB.out.cell (World.block_lt_of_cell? w _ hw199_0)).trans hw199_0), ((HB.out.cell (World.block_lt_of_cell? w _ hw199_1)).trans hw199_1)⟩ (fun hHeld => ?_); refine with_tabW rotalaw13_RingArcs.tab31 rotalaw13_RingArcs.bits31 (fun HT_ HW_ => ?_)
                                          generalize w58.drew = w59 at HO_7 HO_11 HR164 HR170 HR178 HB hx198_0 hx198_1 hx199_0 hx199_1 hHeld ⊢
                                          refine pure_ (i := 0) (N := some 163) (v := ?_) (a' := ?_) #[true, false, false, false, false, false, false, false, false, false, false] rfl rfl (any_of HT_.out (by kernel_rfl)) (fun _ _ _ h => h) (Or.inl ⟨by rfl, ?_⟩) ?_ ?_
                                          rotate_left
                                          · intro w'
                                            go_simp
                                            with_reducible rfl
                                          rotate_left
                                          · simp only [Act.put, List.setIfInBounds_toArray, List.set_cons_zero, List.set_cons_succ, i64_w, i32_w]
                                            rfl
                                          refine pure_ (i := 1) (N := some 164) (v := ?_) (a' := ?_) #[true, true, false, false, false, false, false, false, false, false, false] rfl rfl (any_of HT_.out (by kernel_rfl)) (fun _ _ _ h => h) (Or.inl ⟨by rfl, ?_⟩) ?_ ?_
                                          rotate_left
                                          · intro w'
                                            go_simp
                                            with_reducible rfl
                                          rotate_left
                                          · simp only [Act.put, List.setIfInBounds_toArray, List.set_cons_zero, List.set_cons_succ, i64_w, i32_w]
                                            rfl
                                          refine pure_ (i := 3) (N := some 166) (v := ?_) (a' := ?_) #[true, true, false, true, false, false, false, false, false, false, false] rfl rfl (any_of HT_.out (by kernel_rfl)) (fun _ _ _ h => h) (Or.inl ⟨by rfl, ?_⟩) ?_ ?_
                                          rotate_left
                                          · intro w'
                                            go_simp
                                            with_reducible rfl
                                          rotate_left
                                          · simp only [Act.put, List.setIfInBounds_toArray, List.set_cons_zero, List.set_cons_succ, i64_w, i32_w]
                                            rfl
                                          refine pure_ (i := 4) (N := some 167) (v := ?_) (a' := ?_) #[true, true, false, true, true, false, false, false, false, false, false] rfl rfl (any_of HT_.out (by kernel_rfl)) (fun _ _ _ h => h) (Or.inl ⟨by rfl, ?_⟩) ?_ ?_
                                          rotate_left
                                          · intro w'
                                            go_simp
                                            with_reducible rfl
                                          rotate_left
                                          · simp only [Act.put, List.setIfInBounds_toArray, List.set_cons_zero, List.set_cons_succ, i64_w, i32_w]
                                            rfl
                                          refine pure_ (i := 5) (N := some 168) (v := ?_) (a' := ?_) #[true, true, false, true, true, true, false, false, false, false, false] rfl rfl (any_of HT_.out (by kernel_rfl)) (fun _ _ _ h => h) (Or.inl ⟨by rfl, ?_⟩) ?_ ?_
                                          rotate_left
                                          · intro w'
                                            go_simp
                                            with_reducible rfl
                                          rotate_left
                                          · simp only [Act.put, List.setIfInBounds_toArray, List.set_cons_zero, List.set_cons_succ, i64_w, i32_w]
                                            rfl
                                          refine pure_ (i := 8) (N := some 171) (v := ?_) (a' := ?_) #[true, true, false, true, true, true, false, false, true, false, false] rfl rfl (any_of HT_.out (by kernel_rfl)) (fun _ _ _ h => h) (Or.inl ⟨by rfl, ?_⟩) ?_ ?_
                                          rotate_left
                                          · intro w'
                                            go_simp
                                            with_reducible rfl
                                          rotate_left
                                          · simp only [Act.put, List.setIfInBounds_toArray, List.set_cons_zero, List.set_cons_succ, i64_w, i32_w]
                                            rfl
                                          refine take_ (i := 2) (N := some 165) (v := ?_) (a' := ?_) #[true, true, true, true, true, true, false, false, true, false, false] rfl rfl (take_ofW HT_.out HW_.out (by kernel_rfl)) (fun _ _ _ h => h) (Or.inl ⟨by rfl, ?_⟩) hHeld ?_ ?_
                                          rotate_left
                                          · rintro w' ⟨s0, s1, s2, s3⟩
                                            go_simp
                                            with_reducible rfl
                                          rotate_left
                                          · simp only [Act.put, List.setIfInBounds_toArray, List.set_cons_zero, List.set_cons_succ, i64_w, i32_w]
                                            rfl
                                          refine take_ (i := 6) (N := some 169) (v := ?_) (a' := ?_) #[true, true, true, true, true, true, true, false, true, false, false] rfl rfl (take_ofW HT_.out HW_.out (by kernel_rfl)) (fun _ _ _ h => h) (Or.inl ⟨by rfl, ?_⟩) hHeld ?_ ?_
                                          rotate_left
                                          · rintro w' ⟨s0, s1, s2, s3⟩
                                            go_simp
                                            with_reducible rfl
                                          rotate_left
                                          · simp only [Act.put, List.setIfInBounds_toArray, List.set_cons_zero, List.set_cons_succ, i64_w, i32_w]
                                            rfl
                                          refine one_ (i := 7) (N := some 170) #[true, true, true, true, true, true, true, true, true, false, false] rfl rfl (one_of HT_.out (by kernel_rfl)) (by decide) (fun K hK => ?_)
                                          refine Kd.R_lit_step k52 _ 52 ?hg (N := 170) ?hd (xs := ([(⟨(rd_T52 l0 0).f0, (rd_T52 l0 0).f1⟩ : S52), (⟨(rd_T52 l0 x20_5).f0, (rd_T52 l0 x20_5).f1⟩ : S52)] : List (S52))) (inner := [.int .i64 ((rd_T52 l0 0).f0), .int .i64 ((rd_T52 l0 0).f1), .int .i64 ((rd_T52 l0 x20_5).f0), .int .i64 ((rd_T52 l0 x20_5).f1)]) (ok := fun _ => True) (okp := fun _ => True) ?hr ?hp (fun _ hk => hk) trivial (Below.refl _ _) (Nat.le_refl _) (by simp) ?_; (case hd => rfl); (case hg => rfl); (case hr => first | (go_simp; done) | (go_simp; rfl)); (case hp => exact (Reps.c2 (show Kd.M k52 _ _ _ (⟨(rd_T52 l0 0).f0, (rd_T52 l0 0).f1⟩ : S52) [.int .i64 ((rd_T52 l0 0).f0), .int .i64 ((rd_T52 l0 0).f1)] from (k52_mkM _ _ _ (⟨(rd_T52 l0 0).f0, (rd_T52 l0 0).f1⟩ : S52) )) (Reps.c2 (show Kd.M k52 _ _ _ (⟨(rd_T52 l0 x20_5).f0, (rd_T52 l0 x20_5).f1⟩ : S52) [.int .i64 ((rd_T52 l0 x20_5).f0), .int .i64 ((rd_T52 l0 x20_5).f1)] from (k52_mkM _ _ _ (⟨(rd_T52 l0 x20_5).f0, (rd_T52 l0 x20_5).f1⟩ : S52) )) (Reps.none _ _))))
                                          intro v201 w60 ho61 hb hg_ hnew_
                                          clear hg_ hnew_
                                          (first | rw [← Ny200.out] at ho61 | (simp only [Int.reduceToNat] at ho61; rw [← Ny200.out] at ho61))
                                          have n0_ := Aside0.mk (Kd.R_elder' (by (with_reducible repeat (first | apply Kd.R_alloc | apply Kd.R_drewN | apply Kd.R_drew)); exact HO_7.out) (Kd.R_base ho61) hb)
                                          have n1_ := Aside0.mk (Kd.R_elder' (by (with_reducible repeat (first | apply Kd.R_alloc | apply Kd.R_drewN | apply Kd.R_drew)); exact HO_11.out) (Kd.R_base ho61) hb)
                                          have n2_ := Aside0.mk (Kd.R_lower (Kd.R_new' (Kd.R_new' ho61 (Kd.R_lt (by (with_reducible repeat (first | apply Kd.R_alloc | apply Kd.R_drewN | apply Kd.R_drew)); exact HO_7.out))) (Kd.R_lt (by (with_reducible repeat (first | apply Kd.R_alloc | apply Kd.R_drewN | apply Kd.R_drew)); exact HO_11.out))) (below_size (by repeat (first | (with_reducible first | exact HB.out | apply below_alloc | apply pw_below_drewN | apply below_drew1) | exact HB.out))))
                                          have n3_ := Aside0.mk (Kd.C_below (by repeat (first | (with_reducible exact HR164.out) | (with_reducible refine Kd.C_alloc ?_ _) | (with_reducible refine Kd.C_drewN ?_ _) | (with_reducible refine Kd.C_drew ?_) | exact HR164.out)) hb)
                                          have n4_ := Aside0.mk (Kd.C_below (by repeat (first | (with_reducible exact HR170.out) | (with_reducible refine Kd.C_alloc ?_ _) | (with_reducible refine Kd.C_drewN ?_ _) | (with_reducible refine Kd.C_drew ?_) | exact HR170.out)) hb)
                                          have n5_ := Aside0.mk (Kd.C_below (by repeat (first | (with_reducible exact HR178.out) | (with_reducible refine Kd.C_alloc ?_ _) | (with_reducible refine Kd.C_drewN ?_ _) | (with_reducible refine Kd.C_drew ?_) | exact HR178.out)) hb)
                                          have n6_ := Aside0.mk (below_step (by repeat (first | (with_reducible first | exact HB.out | apply below_alloc | apply pw_below_drewN | apply below_drew1) | exact HB.out)) hb)
                                          clear HO_7
                                          clear HO_11
                                          clear HR164
                                          clear HR170
                                          clear HR178
                                          clear HB
                                          have HO_7 := n0_
                                          have HO_11 := n1_
                                          have HO202 := n2_
                                          have HR164 := n3_
                                          have HR170 := n4_
                                          have HR178 := n5_
                                          have HB := n6_
                                          clear n0_ n1_ n2_ n3_ n4_ n5_ n6_
                                          clear hb ho61
                                          obtain ⟨Ao62, co62, eo62⟩ := Kd.R_slice HO202.out
                                          (first | subst eo62 | (injection eo62 with f1_ f2_ f3_; have f4_ := f1_.symm; have f5_ := f3_.symm; clear f1_ f2_ f3_; subst f4_; subst f5_))
                                          refine hK.out _ _ ⟨((HB.out.cell (World.block_lt_of_cell? w _ hw198_0)).trans hw198_0), ((HB.out.cell (World.block_lt_of_cell? w _ hw198_1)).trans hw198_1), ((HB.out.cell (World.block_lt_of_cell? w _ hw199_0)).trans hw199_0), ((HB.out.cell (World.block_lt_of_cell? w _ hw199_1)).trans hw199_1)⟩ (fun hHeld => ?_)
                                          clear hK K
                                          refine norm_ (a' := ?_) ?_ ?_
                                          rotate_left
                                          · show Act.put _ (some 170) _ = _
                                            simp only [Act.put, List.setIfInBounds_toArray, List.set_cons_zero, List.set_cons_succ, i64_w, i32_w]
                                            rfl
                                          refine one_ (i := 9) (N := some 172) #[true, true, true, true, true, true, true, true, true, true, false] rfl rfl (one_of HT_.out (by kernel_rfl)) (by decide) (fun K hK => ?_)
                                          refine goes_ Try.func32 (by kernel_rfl) rfl #[.slice Ao62 y200.length co62, .int .i64 a2] (by rfl) rfl rfl (by (try simp only [List.map_toArray, List.map_cons, List.map_nil]); first | done | rfl | (simp only [List.length_drop, List.length_take]; rfl)) ?_
                                          with_reducible refine (rotaref13_Taken.calls k5 _ _ y200 a2 t203 _ ?side1 ?side2 A56.out).mono ?_
                                          (case side1 => repeat (first | exact (Kd.R_reads' HO202.out).2.2 | (with_reducible refine Kd.C_alloc ?_ _) | (with_reducible refine Kd.C_drewN ?_ _) | (with_reducible refine Kd.C_drew ?_)))
                                          (case side2 => exact (Kd.R_reads' HO202.out).2.1)
                                          rintro e w63 ⟨v204, rfl, ho0, hb⟩
                                          refine ⟨_, rfl, ?_⟩
                                          have n0_ := Aside0.mk (Kd.R_below (by (with_reducible repeat (first | apply Kd.R_alloc | apply Kd.R_drewN | apply Kd.R_drew)); exact HO_7.out) hb)
                                          have n1_ := Aside0.mk (Kd.R_below (by (with_reducible repeat (first | apply Kd.R_alloc | apply Kd.R_drewN | apply Kd.R_drew)); exact HO_11.out) hb)
                                          have n2_ := Aside0.mk (Kd.R_below (by (with_reducible repeat (first | apply Kd.R_alloc | apply Kd.R_drewN | apply Kd.R_drew)); exact HO202.out) hb)
                                          have n3_ := Aside0.mk (Kd.R_lower ho0 (below_size (by repeat (first | (with_reducible first | exact HB.out | apply below_alloc | apply pw_below_drewN | apply below_drew1) | exact HB.out))))
                                          have n4_ := Aside0.mk (Kd.C_below (by repeat (first | (with_reducible exact HR164.out) | (with_reducible refine Kd.C_alloc ?_ _) | (with_reducible refine Kd.C_drewN ?_ _) | (with_reducible refine Kd.C_drew ?_) | exact HR164.out)) hb)
                                          have n5_ := Aside0.mk (Kd.C_below (by repeat (first | (with_reducible exact HR170.out) | (with_reducible refine Kd.C_alloc ?_ _) | (with_reducible refine Kd.C_drewN ?_ _) | (with_reducible refine Kd.C_drew ?_) | exact HR170.out)) hb)
                                          have n6_ := Aside0.mk (Kd.C_below (by repeat (first | (with_reducible exact HR178.out) | (with_reducible refine Kd.C_alloc ?_ _) | (with_reducible refine Kd.C_drewN ?_ _) | (with_reducible refine Kd.C_drew ?_) | exact HR178.out)) hb)
                                          have n7_ := Aside0.mk (below_step (by repeat (first | (with_reducible first | exact HB.out | apply below_alloc | apply pw_below_drewN | apply below_drew1) | exact HB.out)) hb)
                                          clear HO_7
                                          clear HO_11
                                          clear HO202
                                          clear HR164
                                          clear HR170
                                          clear HR178
                                          clear HB
                                          have HO_7 := n0_
                                          have HO_11 := n1_
                                          have HO202 := n2_
                                          have HO205 := n3_
                                          have HR164 := n4_
                                          have HR170 := n5_
                                          have HR178 := n6_
                                          have HB := n7_
                                          clear n0_ n1_ n2_ n3_ n4_ n5_ n6_ n7_
                                          (try clear hb)
                                          (try clear hb2)
                                          (try clear hk)
                                          (try clear hi)
                                          (try clear ho0)
                                          refine hK.out _ _ ⟨((HB.out.cell (World.block_lt_of_cell? w _ hw198_0)).trans hw198_0), ((HB.out.cell (World.block_lt_of_cell? w _ hw198_1)).trans hw198_1), ((HB.out.cell (World.block_lt_of_cell? w _ hw199_0)).trans hw199_0), ((HB.out.cell (World.block_lt_of_cell? w _ hw199_1)).trans hw199_1)⟩ (fun hHeld => ?_)
                                          clear hK K
                                          refine norm_ (a' := ?_) ?_ ?_
                                          rotate_left
                                          · show Act.put _ (some 172) _ = _
                                            simp only [Act.put, List.setIfInBounds_toArray, List.set_cons_zero, List.set_cons_succ, i64_w, i32_w]
                                            rfl
                                          refine pure_ (i := 10) (N := some 23) (v := ?_) (a' := ?_) #[true, true, true, true, true, true, true, true, true, true, true] rfl rfl (any_of HT_.out (by kernel_rfl)) (fun _ _ _ h => h) (Or.inl ⟨by rfl, ?_⟩) ?_ ?_
                                          rotate_left
                                          · intro w'
                                            go_simp
                                            with_reducible rfl
                                          rotate_left
                                          · simp only [Act.put, List.setIfInBounds_toArray, List.set_cons_zero, List.set_cons_succ, i64_w, i32_w]
                                            rfl
                                          refine done_ (done_of HT_.out (by kernel_rfl)) ?_
                                          obtain ⟨Ao64, co64, eo64⟩ := Kd.R_slice HO205.out
                                          subst eo64
                                          try go_wp2
                                          go_loopg [24, 175] k5 (fun kq v24 v175 w' => ∃ (x24_6 : Bool) (x175_6 : Int), v24 = .bool x24_6 ∧ v175 = .int .i64 x175_6 ∧ Aside0 (rotalaw13_RingArcs.l3 kq l0 a2 t157 t165 t166 t171 t172 x16_3 x20_5 t196 t197 t203 x24_6 (t203.length : Int) x175_6 = some r) ∧ Aside0 (kq ≤ k5) ∧ Aside0 (Kd.R k52 52 w' w.heap.size (fun k_ => some k_ ≠ (v173 : Value).ownBlock) (.slice Ao21 t157.length co21) t157) ∧ Aside0 (Kd.R k52 52 w' w.heap.size (fun k_ => some k_ ≠ ((.slice Ao21 t157.length co21) : Value).ownBlock) v173 t171) ∧ Aside0 (Kd.R (Kd.int .i64) 3 w' w.heap.size (fun _ => True) (.slice Ao64 t203.length co64) t203) ∧ Aside0 (Kd.C k52 w' Ao21 y161.length y161) ∧ Aside0 (Kd.C k52 w' Ao21 y161.length y161) ∧ Aside0 (Kd.C k52 w' Ao21 y161.length y161) ∧ Aside0 (Below w.heap.size w w'))
                                          case atStart => exact ⟨(false), (0), (by first | rfl | (simp; done) | (simp [*]; done)), (by first | rfl | (simp; done) | (simp [*]; done)), H', ⟨Nat.le_refl _⟩, ⟨by (with_reducible repeat (first | apply Kd.R_alloc | apply Kd.R_drewN | apply Kd.R_drew)); exact Kd.R_mono HO_7.out (fun _ hk => hk.1)⟩, ⟨by (with_reducible repeat (first | apply Kd.R_alloc | apply Kd.R_drewN | apply Kd.R_drew)); exact Kd.R_mono HO_11.out (fun _ hk => hk.1)⟩, ⟨by (with_reducible repeat (first | apply Kd.R_alloc | apply Kd.R_drewN | apply Kd.R_drew)); exact HO205.out⟩, ⟨by repeat (first | (with_reducible exact HR164.out) | (with_reducible refine Kd.C_alloc ?_ _) | (with_reducible refine Kd.C_drewN ?_ _) | (with_reducible refine Kd.C_drew ?_) | exact HR164.out)⟩, ⟨by repeat (first | (with_reducible exact HR170.out) | (with_reducible refine Kd.C_alloc ?_ _) | (with_reducible refine Kd.C_drewN ?_ _) | (with_reducible refine Kd.C_drew ?_) | exact HR170.out)⟩, ⟨by repeat (first | (with_reducible exact HR178.out) | (with_reducible refine Kd.C_alloc ?_ _) | (with_reducible refine Kd.C_drewN ?_ _) | (with_reducible refine Kd.C_drew ?_) | exact HR178.out)⟩, ⟨by repeat (first | (with_reducible first | exact HB.out | apply below_alloc | apply pw_below_drewN | apply below_drew1) | exact HB.out)⟩⟩
                                          case round => as_aux_lemma =>
                                            clear H'
                                            try clear c1
                                            try clear p1
                                            try clear q1
                                            try clear hx1
                                            try clear qi1
                                            try clear c2
                                            try clear p2
                                            try clear q2
                                            try clear c3
                                            try clear c4
                                            try clear c5
                                            try clear c5b0
                                            try clear c6
                                            try clear c6b0
                                            try clear p6
                                            try clear c7
                                            try clear c8
                                            try clear c10
                                            try clear c10b0
                                            try clear c10b1
                                            try clear c11
                                            try clear c11b0
                                            try clear c11b1
                                            try clear c13
                                            try clear c13b0
                                            try clear c14
                                            try clear c14b0
                                            try clear c16
                                            try clear c16b0
                                            try clear c17
                                            try clear c17b0
                                            try clear p18
                                            try clear q18
                                            try clear hx18
                                            try clear p19
                                            try clear q19
                                            try clear hx19
                                            try clear qi19
                                            try clear q20
                                            try clear q23
                                            try clear q25
                                            try clear c27
                                            try clear c27b0
                                            try clear c28
                                            try clear c28b0
                                            try clear c29
                                            try clear c29b0
                                            try clear c30
                                            try clear c30b0
                                            try clear c31
                                            try clear c31b0
                                            try clear c32
                                            try clear c33
                                            try clear c34
                                            try clear c38
                                            try clear c38b0
                                            try clear c39
                                            try clear c39b0
                                            try clear c40
                                            try clear c40b0
                                            try clear c41
                                            try clear c41b0
                                            try clear c45
                                            try clear c45b0
                                            try clear c46
                                            try clear c46b0
                                            try clear c46b1
                                            try clear c47
                                            try clear c47b0
                                            try clear c48
                                            try clear c48b0
                                            try clear c48b1
                                            try clear c49
                                            try clear c49b0
                                            try clear c50
                                            try clear c50b0
                                            try clear c50b1
                                            try clear c51
                                            try clear c52
                                            try clear c52b0
                                            try clear c53
                                            try clear c53b0
                                            try clear c53b1
                                            try clear c54
                                            try clear c54b0
                                            try clear hx181_0
                                            try clear hx181_1
                                            try clear hx182_0
                                            try clear hx182_1
                                            try clear hx187_0
                                            try clear hx194_0
                                            try clear hx194_1
                                            try clear hx195_0
                                            try clear hx195_1
                                            try clear hx198_0
                                            try clear hx198_1
                                            try clear hx199_0
                                            try clear hx199_1
                                            try clear p1
                                            try clear p18
                                            try clear p181
                                            try clear p182
                                            try clear p187
                                            try clear p194
                                            try clear p195
                                            try clear p198
                                            try clear p199
                                            try clear p2
                                            try clear p6
                                            try clear q1
                                            try clear q18
                                            try clear q181
                                            try clear q182
                                            try clear q187
                                            try clear q194
                                            try clear q195
                                            try clear q198
                                            try clear q199
                                            try clear q2
                                            try clear q20
                                            try clear q23
                                            try clear q25
                                            obtain ⟨x24_6, x175_6, rfl, rfl, HA, HK6, HO_7, HO_11, HO_23, HR164, HR170, HR178, HB⟩ := hrel
                                            cases gk with
                                            | zero => exact absurd HA.out (by simp [rotalaw13_RingArcs.l3])
                                            | succ k6 =>
                                              have H := HA.out
                                              clear HA
                                              simp only [rotalaw13_RingArcs.l3] at H
                                              by_cases c65 : x175_6 < (t203.length : Int)
                                              · rw [if_pos c65] at H
                                                have c65b0 : decide (x175_6 < (t203.length : Int)) = true := decide_eq_true c65
                                                clear c65
                                                by_cases c66 : x24_6 = true
                                                · subst c66
                                                  have H1 : (rotalaw13_RingArcs.l3 k6 l0 a2 t157 t165 t166 t171 t172 x16_3 x20_5 t196 t197 t203 true (t203.length : Int) (wrap64 (x175_6 + 1))) = some r := by rw [if_pos rfl] at H; exact H
                                                  clear H
                                                  have H := H1
                                                  clear H1
                                                  have H' := Aside0.mk H
                                                  clear H
                                                  go_wp2
                                                  go_roundg k6
                                                  case measure => have := HJ3.out; have := HK2.out; have := HK3.out; have := HJ42.out; have := HK5.out; have := HK6.out; omega
                                                  case rel => exact ⟨(true), (wrap64 (x175_6 + 1)), (by first | rfl | (simp; done) | (simp [*]; done)), (by first | rfl | (simp; done) | (simp [*]; done)), H', ⟨by have := HJ3.out; have := HK2.out; have := HK3.out; have := HJ42.out; have := HK5.out; have := HK6.out; omega⟩, ⟨by (with_reducible repeat (first | apply Kd.R_alloc | apply Kd.R_drewN | apply Kd.R_drew)); exact HO_7.out⟩, ⟨by (with_reducible repeat (first | apply Kd.R_alloc | apply Kd.R_drewN | apply Kd.R_drew)); exact HO_11.out⟩, ⟨by (with_reducible repeat (first | apply Kd.R_alloc | apply Kd.R_drewN | apply Kd.R_drew)); exact HO_23.out⟩, ⟨by repeat (first | (with_reducible exact HR164.out) | (with_reducible refine Kd.C_alloc ?_ _) | (with_reducible refine Kd.C_drewN ?_ _) | (with_reducible refine Kd.C_drew ?_) | exact HR164.out)⟩, ⟨by repeat (first | (with_reducible exact HR170.out) | (with_reducible refine Kd.C_alloc ?_ _) | (with_reducible refine Kd.C_drewN ?_ _) | (with_reducible refine Kd.C_drew ?_) | exact HR170.out)⟩, ⟨by repeat (first | (with_reducible exact HR178.out) | (with_reducible refine Kd.C_alloc ?_ _) | (with_reducible refine Kd.C_drewN ?_ _) | (with_reducible refine Kd.C_drew ?_) | exact HR178.out)⟩, ⟨by repeat (first | (with_reducible first | exact HB.out | apply below_alloc | apply pw_below_drewN | apply below_drew1) | exact HB.out)⟩⟩
                                                · replace c66 := Bool.eq_false_iff.mpr c66
                                                  subst c66
                                                  have H1 : (if 0 ≤ x175_6 then (if x175_6 < (t203.length : Int) then (rotalaw13_RingArcs.l3 k6 l0 a2 t157 t165 t166 t171 t172 x16_3 x20_5 t196 t197 t203 (decide ((rd t203 x175_6) > 1)) (t203.length : Int) (wrap64 (x175_6 + 1))) else (none)) else (none)) = some r := by rw [if_neg (show ¬ (false = true) by decide)] at H; exact H
                                                  clear H
                                                  have H := H1
                                                  clear H1
                                                  by_cases c67 : 0 ≤ x175_6
                                                  · rw [if_pos c67] at H
                                                    have c67b0 : decide (0 ≤ x175_6) = true := decide_eq_true c67
                                                    clear c67
                                                    by_cases c68 : x175_6 < (t203.length : Int)
                                                    · rw [if_pos c68] at H
                                                      have c68b0 : decide (x175_6 < (t203.length : Int)) = true := decide_eq_true c68
                                                      clear c68
                                                      have H' := Aside0.mk H
                                                      clear H
                                                      have p206 : 0 ≤ (x175_6 : Int) := of_decide_eq_true (by first | (with_reducible assumption) | assumption)
                                                      have q206 : x175_6 < (t203.length : Int) := of_decide_eq_true (by first | (with_reducible assumption) | assumption)
                                                      obtain ⟨ad206, e206, hx206_0⟩ := Kd.at_int (Kd.R_reads' HO_23.out).2.2 x175_6 p206 q206
                                                      cases e206
                                                      replace p206 := eq_true p206
                                                      replace q206 := eq_true q206
                                                      go_wp2
                                                      go_roundg k6
                                                      case measure => have := HJ3.out; have := HK2.out; have := HK3.out; have := HJ42.out; have := HK5.out; have := HK6.out; omega
                                                      case rel => exact ⟨(decide ((rd t203 x175_6) > 1)), (wrap64 (x175_6 + 1)), (by first | rfl | (simp; done) | (simp [*]; done)), (by first | rfl | (simp; done) | (simp [*]; done)), H', ⟨by have := HJ3.out; have := HK2.out; have := HK3.out; have := HJ42.out; have := HK5.out; have := HK6.out; omega⟩, ⟨by (with_reducible repeat (first | apply Kd.R_alloc | apply Kd.R_drewN | apply Kd.R_drew)); exact HO_7.out⟩, ⟨by (with_reducible repeat (first | apply Kd.R_alloc | apply Kd.R_drewN | apply Kd.R_drew)); exact HO_11.out⟩, ⟨by (with_reducible repeat (first | apply Kd.R_alloc | apply Kd.R_drewN | apply Kd.R_drew)); exact HO_23.out⟩, ⟨by repeat (first | (with_reducible exact HR164.out) | (with_reducible refine Kd.C_alloc ?_ _) | (with_reducible refine Kd.C_drewN ?_ _) | (with_reducible refine Kd.C_drew ?_) | exact HR164.out)⟩, ⟨by repeat (first | (with_reducible exact HR170.out) | (with_reducible refine Kd.C_alloc ?_ _) | (with_reducible refine Kd.C_drewN ?_ _) | (with_reducible refine Kd.C_drew ?_) | exact HR170.out)⟩, ⟨by repeat (first | (with_reducible exact HR178.out) | (with_reducible refine Kd.C_alloc ?_ _) | (with_reducible refine Kd.C_drewN ?_ _) | (with_reducible refine Kd.C_drew ?_) | exact HR178.out)⟩, ⟨by repeat (first | (with_reducible first | exact HB.out | apply below_alloc | apply pw_below_drewN | apply below_drew1) | exact HB.out)⟩⟩
                                                    · rw [if_neg c68] at H
                                                      exact absurd H (by simp)
                                                  · rw [if_neg c67] at H
                                                    exact absurd H (by simp)
                                              · rw [if_neg c65] at H
                                                have c65b0 : decide (x175_6 < (t203.length : Int)) = false := decide_eq_false c65
                                                clear c65
                                                by_cases c69 : t197 = 0
                                                · rw [if_pos c69] at H
                                                  have c69b0 : (t197 == 0) = true := beq_iff_eq.mpr c69
                                                  have c69b1 : (t197 != 0) = false := bne_eq_false_iff_eq.mpr c69
                                                  clear c69
                                                  by_cases c70 : (t196 != x24_6) = true
                                                  · rw [if_pos c70] at H
                                                    have c70b0 : (t196 != x24_6) = true := c70
                                                    (try (have c70b1 : decide (t196 = x24_6) = false := by simpa using c70))
                                                    (try (have c70b2 : (t196 == x24_6) = false := by simpa using c70))
                                                    (try (have c70b3 : ¬ (t196 = x24_6) := by simpa using c70))
                                                    clear c70
                                                    obtain rfl := Option.some.inj H
                                                    go_wp2
                                                    go_ret
                                                    exact ⟨by first | rfl | (simp [errW_none, errW_some] <;> rfl) | (simp [*, errW_none, errW_some] <;> rfl), by repeat (first | (with_reducible first | exact HB.out | apply below_alloc | apply pw_below_drewN | apply below_drew1) | exact HB.out)⟩
                                                  · rw [if_neg c70] at H
                                                    have c70b0 : (t196 != x24_6) = false := by simpa using c70
                                                    (try (have c70b1 : decide (t196 = x24_6) = true := by simpa using c70))
                                                    (try (have c70b2 : (t196 == x24_6) = true := by simpa using c70))
                                                    clear c70
                                                    have H' := Aside0.mk H
                                                    clear H
                                                    go_wp2
                                                    go_roundg k6
                                                    case measure => have := HJ3.out; have := HK2.out; have := HK3.out; have := HJ42.out; have := HK5.out; have := HK6.out; omega
                                                    case rel => exact ⟨(wrap64 (x20_5 + 1)), (by first | rfl | (simp; done) | (simp [*]; done)), H', ⟨by have := HJ3.out; have := HK2.out; have := HK3.out; have := HJ42.out; have := HK5.out; have := HK6.out; omega⟩, ⟨by (with_reducible repeat (first | apply Kd.R_alloc | apply Kd.R_drewN | apply Kd.R_drew)); exact HO_7.out⟩, ⟨by (with_reducible repeat (first | apply Kd.R_alloc | apply Kd.R_drewN | apply Kd.R_drew)); exact HO_11.out⟩, ⟨by repeat (first | (with_reducible exact HR164.out) | (with_reducible refine Kd.C_alloc ?_ _) | (with_reducible refine Kd.C_drewN ?_ _) | (with_reducible refine Kd.C_drew ?_) | exact HR164.out)⟩, ⟨by repeat (first | (with_reducible exact HR170.out) | (with_reducible refine Kd.C_alloc ?_ _) | (with_reducible refine Kd.C_drewN ?_ _) | (with_reducible refine Kd.C_drew ?_) | exact HR170.out)⟩, ⟨by repeat (first | (with_reducible exact HR178.out) | (with_reducible refine Kd.C_alloc ?_ _) | (with_reducible refine Kd.C_drewN ?_ _) | (with_reducible refine Kd.C_drew ?_) | exact HR178.out)⟩, ⟨by repeat (first | (with_reducible first | exact HB.out | apply below_alloc | apply pw_below_drewN | apply below_drew1) | exact HB.out)⟩⟩
                                                · rw [if_neg c69] at H
                                                  have c69b0 : (t197 == 0) = false := beq_eq_false_iff_ne.mpr c69
                                                  have c69b1 : (t197 != 0) = true := bne_iff_ne.mpr c69
                                                  obtain rfl := Option.some.inj H
                                                  go_wp2
                                                  go_ret
                                                  exact ⟨by first | rfl | (simp [errW_none, errW_some] <;> rfl) | (simp [*, errW_none, errW_some] <;> rfl), by repeat (first | (with_reducible first | exact HB.out | apply below_alloc | apply pw_below_drewN | apply below_drew1) | exact HB.out)⟩
                                        · rw [if_neg c54] at H
                                          exact absurd H (by simp)
                                      · rw [if_neg c53] at H
                                        exact absurd H (by simp)
                                    · rw [if_neg c52] at H
                                      have c52b0 : decide (x20_5 < (l0.length : Int)) = false := decide_eq_false c52
                                      clear c52
                                      by_cases c71 : t166 = 0
                                      · rw [if_pos c71] at H
                                        have c71b0 : (t166 == 0) = true := beq_iff_eq.mpr c71
                                        have c71b1 : (t166 != 0) = false := bne_eq_false_iff_eq.mpr c71
                                        clear c71
                                        by_cases c72 : t172 = 0
                                        · rw [if_pos c72] at H
                                          have c72b0 : (t172 == 0) = true := beq_iff_eq.mpr c72
                                          have c72b1 : (t172 != 0) = false := bne_eq_false_iff_eq.mpr c72
                                          clear c72
                                          by_cases c73 : t165 = x16_3
                                          · rw [if_pos c73] at H
                                            have c73b0 : (t165 == x16_3) = true := beq_iff_eq.mpr c73
                                            have c73b1 : (t165 != x16_3) = false := bne_eq_false_iff_eq.mpr c73
                                            clear c73
                                            replace H := Option.bind_eq_some_iff.mp H
                                            obtain ⟨t189, A740, H⟩ := H
                                            replace H : ((rotaref13_Same.f k5 t171 t189).bind fun t192 => (if t192 = true then (if 0 ≤ (l0.length : Int) then (if (l0.length : Int) < (t157.length : Int) then (some (((rd_T52 t157 (l0.length : Int)).f0) == 77)) else (none)) else (none)) else (some false))) = some r := H
                                            have A74 := Aside0.mk A740
                                            clear A740
                                            replace H := Option.bind_eq_some_iff.mp H
                                            obtain ⟨t192, A750, H⟩ := H
                                            replace H : (if t192 = true then (if 0 ≤ (l0.length : Int) then (if (l0.length : Int) < (t157.length : Int) then (some (((rd_T52 t157 (l0.length : Int)).f0) == 77)) else (none)) else (none)) else (some false)) = some r := H
                                            have A75 := Aside0.mk A750
                                            clear A750
                                            by_cases c76 : t192 = true
                                            · subst c76
                                              have H1 : (if 0 ≤ (l0.length : Int) then (if (l0.length : Int) < (t157.length : Int) then (some (((rd_T52 t157 (l0.length : Int)).f0) == 77)) else (none)) else (none)) = some r := by rw [if_pos rfl] at H; exact H
                                              clear H
                                              have H := H1
                                              clear H1
                                              by_cases c77 : 0 ≤ (l0.length : Int)
                                              · rw [if_pos c77] at H
                                                have c77b0 : decide (0 ≤ (l0.length : Int)) = true := decide_eq_true c77
                                                have c77b1 : decide (0 ≤ l0.length) = true := decide_eq_true (by omega)
                                                clear c77
                                                by_cases c78 : (l0.length : Int) < (t157.length : Int)
                                                · rw [if_pos c78] at H
                                                  have c78b0 : decide ((l0.length : Int) < (t157.length : Int)) = true := decide_eq_true c78
                                                  have c78b1 : decide (l0.length < t157.length) = true := decide_eq_true (Int.ofNat_lt.mp c78)
                                                  clear c78
                                                  obtain rfl := Option.some.inj H
                                                  go_wp2_with (first | (go_at_call 35; (with_reducible refine (rotaref13_Gaps.calls k5 _ _ l0 a2 t189 _ ?side1 ?side2 A74.out).mono ?_); (case side1 => repeat (first | exact (Kd.C_below HR0.out HB.out) | (with_reducible refine Kd.C_alloc ?_ _) | (with_reducible refine Kd.C_drewN ?_ _) | (with_reducible refine Kd.C_drew ?_))); (case side2 => exact HC0.out); rintro e w79 ⟨v190, rfl, ho0, hb⟩; have n0_ := Aside0.mk (Kd.R_elder' (by (with_reducible repeat (first | apply Kd.R_alloc | apply Kd.R_drewN | apply Kd.R_drew)); exact HO_7.out) (Kd.R_base ho0) hb); have n1_ := Aside0.mk (Kd.R_elder' (by (with_reducible repeat (first | apply Kd.R_alloc | apply Kd.R_drewN | apply Kd.R_drew)); exact HO_11.out) (Kd.R_base ho0) hb); have n2_ := Aside0.mk (Kd.R_lower (Kd.R_new' (Kd.R_new' ho0 (Kd.R_lt (by (with_reducible repeat (first | apply Kd.R_alloc | apply Kd.R_drewN | apply Kd.R_drew)); exact HO_7.out))) (Kd.R_lt (by (with_reducible repeat (first | apply Kd.R_alloc | apply Kd.R_drewN | apply Kd.R_drew)); exact HO_11.out))) (below_size (by repeat (first | (with_reducible first | exact HB.out | apply below_alloc | apply pw_below_drewN | apply below_drew1) | exact HB.out)))); have n3_ := Aside0.mk (Kd.C_below (by repeat (first | (with_reducible exact HR164.out) | (with_reducible refine Kd.C_alloc ?_ _) | (with_reducible refine Kd.C_drewN ?_ _) | (with_reducible refine Kd.C_drew ?_) | exact HR164.out)) hb); have n4_ := Aside0.mk (Kd.C_below (by repeat (first | (with_reducible exact HR170.out) | (with_reducible refine Kd.C_alloc ?_ _) | (with_reducible refine Kd.C_drewN ?_ _) | (with_reducible refine Kd.C_drew ?_) | exact HR170.out)) hb); have n5_ := Aside0.mk (Kd.C_below (by repeat (first | (with_reducible exact HR178.out) | (with_reducible refine Kd.C_alloc ?_ _) | (with_reducible refine Kd.C_drewN ?_ _) | (with_reducible refine Kd.C_drew ?_) | exact HR178.out)) hb); have n6_ := Aside0.mk (below_step (by repeat (first | (with_reducible first | exact HB.out | apply below_alloc | apply pw_below_drewN | apply below_drew1) | exact HB.out)) hb); clear HO_7; clear HO_11; clear HR164; clear HR170; clear HR178; clear HB; have HO_7 := n0_; have HO_11 := n1_; have HO191 := n2_; have HR164 := n3_; have HR170 := n4_; have HR178 := n5_; have HB := n6_; clear n0_ n1_ n2_ n3_ n4_ n5_ n6_; (try clear hb); (try clear hb2); (try clear hk); (try clear hi); (try clear ho0); obtain ⟨Ao80, co80, eo80⟩ := Kd.R_slice HO_11.out; subst eo80; obtain ⟨Ao81, co81, eo81⟩ := Kd.R_slice HO191.out; subst eo81) | (go_at_call 34; (with_reducible refine (rotaref13_Same.calls k5 _ _ t171 _ _ t189 true _ ?side1 ?side2 ?side3 ?side4 A75.out).mono ?_); (case side1 => repeat (first | exact (Kd.R_reads' HO_11.out).2.2 | (with_reducible refine Kd.C_alloc ?_ _) | (with_reducible refine Kd.C_drewN ?_ _) | (with_reducible refine Kd.C_drew ?_))); (case side2 => exact (Kd.R_reads' HO_11.out).2.1); (case side3 => repeat (first | exact (Kd.R_reads' HO191.out).2.2 | (with_reducible refine Kd.C_alloc ?_ _) | (with_reducible refine Kd.C_drewN ?_ _) | (with_reducible refine Kd.C_drew ?_))); (case side4 => exact (Kd.R_reads' HO191.out).2.1); rintro e w' ⟨rfl, ⟨nd, rfl⟩⟩; have p193 : 0 ≤ ((l0.length : Int) : Int) := of_decide_eq_true (by first | (with_reducible assumption) | assumption); have q193 : (l0.length : Int) < (t157.length : Int) := of_decide_eq_true (by first | (with_reducible assumption) | assumption); obtain ⟨ad193, e193, hx193_0, hx193_1⟩ := at_T52 (Kd.R_reads' HO_7.out).2.2 (l0.length : Int) p193 q193; cases e193; (try simp only [Go.IntWalk.toNatUp] at hx193_0); (try simp only [Go.IntWalk.toNatUp] at hx193_1); replace p193 := eq_true p193; replace q193 := eq_true q193))
                                                  go_ret
                                                  exact ⟨by first | rfl | (simp [errW_none, errW_some] <;> rfl) | (simp [*, errW_none, errW_some] <;> rfl), by repeat (first | (with_reducible first | exact HB.out | apply below_alloc | apply pw_below_drewN | apply below_drew1) | exact HB.out)⟩
                                                · rw [if_neg c78] at H
                                                  exact absurd H (by simp)
                                              · rw [if_neg c77] at H
                                                exact absurd H (by simp)
                                            · replace c76 := Bool.eq_false_iff.mpr c76
                                              subst c76
                                              have H1 : (some false) = some r := by rw [if_neg (show ¬ (false = true) by decide)] at H; exact H
                                              clear H
                                              have H := H1
                                              clear H1
                                              obtain rfl := Option.some.inj H
                                              go_wp2_with (first | (go_at_call 35; (with_reducible refine (rotaref13_Gaps.calls k5 _ _ l0 a2 t189 _ ?side1 ?side2 A74.out).mono ?_); (case side1 => repeat (first | exact (Kd.C_below HR0.out HB.out) | (with_reducible refine Kd.C_alloc ?_ _) | (with_reducible refine Kd.C_drewN ?_ _) | (with_reducible refine Kd.C_drew ?_))); (case side2 => exact HC0.out); rintro e w82 ⟨v190, rfl, ho0, hb⟩; have n0_ := Aside0.mk (Kd.R_elder' (by (with_reducible repeat (first | apply Kd.R_alloc | apply Kd.R_drewN | apply Kd.R_drew)); exact HO_7.out) (Kd.R_base ho0) hb); have n1_ := Aside0.mk (Kd.R_elder' (by (with_reducible repeat (first | apply Kd.R_alloc | apply Kd.R_drewN | apply Kd.R_drew)); exact HO_11.out) (Kd.R_base ho0) hb); have n2_ := Aside0.mk (Kd.R_lower (Kd.R_new' (Kd.R_new' ho0 (Kd.R_lt (by (with_reducible repeat (first | apply Kd.R_alloc | apply Kd.R_drewN | apply Kd.R_drew)); exact HO_7.out))) (Kd.R_lt (by (with_reducible repeat (first | apply Kd.R_alloc | apply Kd.R_drewN | apply Kd.R_drew)); exact HO_11.out))) (below_size (by repeat (first | (with_reducible first | exact HB.out | apply below_alloc | apply pw_below_drewN | apply below_drew1) | exact HB.out)))); have n3_ := Aside0.mk (Kd.C_below (by repeat (first | (with_reducible exact HR164.out) | (with_reducible refine Kd.C_alloc ?_ _) | (with_reducible refine Kd.C_drewN ?_ _) | (with_reducible refine Kd.C_drew ?_) | exact HR164.out)) hb); have n4_ := Aside0.mk (Kd.C_below (by repeat (first | (with_reducible exact HR170.out) | (with_reducible refine Kd.C_alloc ?_ _) | (with_reducible refine Kd.C_drewN ?_ _) | (with_reducible refine Kd.C_drew ?_) | exact HR170.out)) hb); have n5_ := Aside0.mk (Kd.C_below (by repeat (first | (with_reducible exact HR178.out) | (with_reducible refine Kd.C_alloc ?_ _) | (with_reducible refine Kd.C_drewN ?_ _) | (with_reducible refine Kd.C_drew ?_) | exact HR178.out)) hb); have n6_ := Aside0.mk (below_step (by repeat (first | (with_reducible first | exact HB.out | apply below_alloc | apply pw_below_drewN | apply below_drew1) | exact HB.out)) hb); clear HO_7; clear HO_11; clear HR164; clear HR170; clear HR178; clear HB; have HO_7 := n0_; have HO_11 := n1_; have HO191 := n2_; have HR164 := n3_; have HR170 := n4_; have HR178 := n5_; have HB := n6_; clear n0_ n1_ n2_ n3_ n4_ n5_ n6_; (try clear hb); (try clear hb2); (try clear hk); (try clear hi); (try clear ho0); obtain ⟨Ao83, co83, eo83⟩ := Kd.R_slice HO_11.out; subst eo83; obtain ⟨Ao84, co84, eo84⟩ := Kd.R_slice HO191.out; subst eo84) | (go_at_call 34; (with_reducible refine (rotaref13_Same.calls k5 _ _ t171 _ _ t189 false _ ?side1 ?side2 ?side3 ?side4 A75.out).mono ?_); (case side1 => repeat (first | exact (Kd.R_reads' HO_11.out).2.2 | (with_reducible refine Kd.C_alloc ?_ _) | (with_reducible refine Kd.C_drewN ?_ _) | (with_reducible refine Kd.C_drew ?_))); (case side2 => exact (Kd.R_reads' HO_11.out).2.1); (case side3 => repeat (first | exact (Kd.R_reads' HO191.out).2.2 | (with_reducible refine Kd.C_alloc ?_ _) | (with_reducible refine Kd.C_drewN ?_ _) | (with_reducible refine Kd.C_drew ?_))); (case side4 => exact (Kd.R_reads' HO191.out).2.1); rintro e w' ⟨rfl, ⟨nd, rfl⟩⟩))
                                              go_ret
                                              exact ⟨by first | rfl | (simp [errW_none, errW_some] <;> rfl) | (simp [*, errW_none, errW_some] <;> rfl), by repeat (first | (with_reducible first | exact HB.out | apply below_alloc | apply pw_below_drewN | apply below_drew1) | exact HB.out)⟩
                                          · rw [if_neg c73] at H
                                            have c73b0 : (t165 == x16_3) = false := beq_eq_false_iff_ne.mpr c73
                                            have c73b1 : (t165 != x16_3) = true := bne_iff_ne.mpr c73
                                            obtain rfl := Option.some.inj H
                                            go_wp2
                                            go_ret
                                            exact ⟨by first | rfl | (simp [errW_none, errW_some] <;> rfl) | (simp [*, errW_none, errW_some] <;> rfl), by repeat (first | (with_reducible first | exact HB.out | apply below_alloc | apply pw_below_drewN | apply below_drew1) | exact HB.out)⟩
                                        · rw [if_neg c72] at H
                                          have c72b0 : (t172 == 0) = false := beq_eq_false_iff_ne.mpr c72
                                          have c72b1 : (t172 != 0) = true := bne_iff_ne.mpr c72
                                          obtain rfl := Option.some.inj H
                                          go_wp2
                                          go_ret
                                          exact ⟨by first | rfl | (simp [errW_none, errW_some] <;> rfl) | (simp [*, errW_none, errW_some] <;> rfl), by repeat (first | (with_reducible first | exact HB.out | apply below_alloc | apply pw_below_drewN | apply below_drew1) | exact HB.out)⟩
                                      · rw [if_neg c71] at H
                                        have c71b0 : (t166 == 0) = false := beq_eq_false_iff_ne.mpr c71
                                        have c71b1 : (t166 != 0) = true := bne_iff_ne.mpr c71
                                        obtain rfl := Option.some.inj H
                                        go_wp2
                                        go_ret
                                        exact ⟨by first | rfl | (simp [errW_none, errW_some] <;> rfl) | (simp [*, errW_none, errW_some] <;> rfl), by repeat (first | (with_reducible first | exact HB.out | apply below_alloc | apply pw_below_drewN | apply below_drew1) | exact HB.out)⟩
                  · replace c34 := Bool.eq_false_iff.mpr c34
                    subst c34
                    have H1 : (if t166 = 130 then (if t172 = 130 then (if t180 = 130 then (if 0 ≤ (l0.length : Int) then (if (l0.length : Int) < (t157.length : Int) then (some (((rd_T52 t157 (l0.length : Int)).f0) == 77)) else (none)) else (none)) else (some false)) else (some false)) else (some false)) = some r := by rw [if_neg (show ¬ (false = true) by decide)] at H; exact H
                    clear H
                    have H := H1
                    clear H1
                    by_cases c85 : t166 = 130
                    · rw [if_pos c85] at H
                      have c85b0 : (t166 == 130) = true := beq_iff_eq.mpr c85
                      have c85b1 : (t166 != 130) = false := bne_eq_false_iff_eq.mpr c85
                      clear c85
                      by_cases c86 : t172 = 130
                      · rw [if_pos c86] at H
                        have c86b0 : (t172 == 130) = true := beq_iff_eq.mpr c86
                        have c86b1 : (t172 != 130) = false := bne_eq_false_iff_eq.mpr c86
                        clear c86
                        by_cases c87 : t180 = 130
                        · rw [if_pos c87] at H
                          have c87b0 : (t180 == 130) = true := beq_iff_eq.mpr c87
                          have c87b1 : (t180 != 130) = false := bne_eq_false_iff_eq.mpr c87
                          clear c87
                          by_cases c88 : 0 ≤ (l0.length : Int)
                          · rw [if_pos c88] at H
                            have c88b0 : decide (0 ≤ (l0.length : Int)) = true := decide_eq_true c88
                            have c88b1 : decide (0 ≤ l0.length) = true := decide_eq_true (by omega)
                            clear c88
                            by_cases c89 : (l0.length : Int) < (t157.length : Int)
                            · rw [if_pos c89] at H
                              have c89b0 : decide ((l0.length : Int) < (t157.length : Int)) = true := decide_eq_true c89
                              have c89b1 : decide (l0.length < t157.length) = true := decide_eq_true (Int.ofNat_lt.mp c89)
                              clear c89
                              obtain rfl := Option.some.inj H
                              have p183 : 0 ≤ ((l0.length : Int) : Int) := of_decide_eq_true (by first | (with_reducible assumption) | assumption)
                              have q183 : (l0.length : Int) < (t157.length : Int) := of_decide_eq_true (by first | (with_reducible assumption) | assumption)
                              obtain ⟨ad183, e183, hx183_0, hx183_1⟩ := at_T52 (Kd.R_reads' HO_7.out).2.2 (l0.length : Int) p183 q183
                              cases e183
                              (try simp only [Go.IntWalk.toNatUp] at hx183_0)
                              (try simp only [Go.IntWalk.toNatUp] at hx183_1)
                              replace p183 := eq_true p183
                              replace q183 := eq_true q183
                              go_wp2
                              go_ret
                              exact ⟨by first | rfl | (simp [errW_none, errW_some] <;> rfl) | (simp [*, errW_none, errW_some] <;> rfl), by repeat (first | (with_reducible first | exact HB.out | apply below_alloc | apply pw_below_drewN | apply below_drew1) | exact HB.out)⟩
                            · rw [if_neg c89] at H
                              exact absurd H (by simp)
                          · rw [if_neg c88] at H
                            exact absurd H (by simp)
                        · rw [if_neg c87] at H
                          have c87b0 : (t180 == 130) = false := beq_eq_false_iff_ne.mpr c87
                          have c87b1 : (t180 != 130) = true := bne_iff_ne.mpr c87
                          obtain rfl := Option.some.inj H
                          go_wp2
                          go_ret
                          exact ⟨by first | rfl | (simp [errW_none, errW_some] <;> rfl) | (simp [*, errW_none, errW_some] <;> rfl), by repeat (first | (with_reducible first | exact HB.out | apply below_alloc | apply pw_below_drewN | apply below_drew1) | exact HB.out)⟩
                      · rw [if_neg c86] at H
                        have c86b0 : (t172 == 130) = false := beq_eq_false_iff_ne.mpr c86
                        have c86b1 : (t172 != 130) = true := bne_iff_ne.mpr c86
                        obtain rfl := Option.some.inj H
                        go_wp2
                        go_ret
                        exact ⟨by first | rfl | (simp [errW_none, errW_some] <;> rfl) | (simp [*, errW_none, errW_some] <;> rfl), by repeat (first | (with_reducible first | exact HB.out | apply below_alloc | apply pw_below_drewN | apply below_drew1) | exact HB.out)⟩
                    · rw [if_neg c85] at H
                      have c85b0 : (t166 == 130) = false := beq_eq_false_iff_ne.mpr c85
                      have c85b1 : (t166 != 130) = true := bne_iff_ne.mpr c85
                      obtain rfl := Option.some.inj H
                      go_wp2
                      go_ret
                      exact ⟨by first | rfl | (simp [errW_none, errW_some] <;> rfl) | (simp [*, errW_none, errW_some] <;> rfl), by repeat (first | (with_reducible first | exact HB.out | apply below_alloc | apply pw_below_drewN | apply below_drew1) | exact HB.out)⟩
          · rw [if_neg c11] at H
            exact absurd H (by simp)
        · rw [if_neg c10] at H
          exact absurd H (by simp)

end Go.Proofs.Ythnpacnmghlkmaa.Qa
