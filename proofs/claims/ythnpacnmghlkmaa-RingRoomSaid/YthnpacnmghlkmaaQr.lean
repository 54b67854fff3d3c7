/- Functions of the program as Lean functions, each with the proof that the Go code comes to just its answers (written by a program of this session's over the kit's print). -/
import Derived.Test.YthnpacnmghlkmaaPx0
import Derived.Test.YthnpacnmghlkmaaPx1
import Derived.Test.YthnpacnmghlkmaaPx2
import Derived.Test.YthnpacnmghlkmaaPx3
import Derived.Test.YthnpacnmghlkmaaPx4
import Derived.Test.YthnpacnmghlkmaaPx5
import Derived.Test.YthnpacnmghlkmaaPx6
import Derived.Test.YthnpacnmghlkmaaPx7
import Derived.Test.YthnpacnmghlkmaaPx8
import Derived.Test.YthnpacnmghlkmaaCovered
namespace Go.Proofs.Ythnpacnmghlkmaa.Qr
open Go.RowKit Go.Proofs.YthnpacnmghlkmaaW.PrintWords Go.Proofs.YthnpacnmghlkmaaW.PrintLast Go.Proofs.YthnpacnmghlkmaaW.PrintMore Go.Proofs.Ythnpacnmghlkmaa Go.Proofs.Ythnpacnmghlkmaa.Px
attribute [local go_sem] max2_int min2_int max_two min_two max_three min_three max_four min_four   -- for this text's walks alone
set_option linter.unusedVariables false
set_option linter.unusedSimpArgs false

/-! ### rotalaw13_RingRoom: function 9 -/
mutual
def rotalaw13_RingRoom.j0 : Nat → List (S52) → Int → Bool → Int → Bool → Option (Bool)
  | 0, _, _, _, _, _ => none
  | k + 1, x0, x1, x7, x8, x37 => if x37 = true then (some x7) else ((ring_Covered.f k x0 x8).bind fun bt223 => ((ring_Gaps.f k x0 x8).bind fun bt225 => ((ring_Fit.f k x0 x1 x8).bind fun bt229 => (if bt223.2 = 0 then (rotalaw13_RingRoom.j1 k x0 x1 x7 x8 bt223.1 bt223.2 bt225.1 bt225.2 bt229.1 bt229.2 (bt225.2 != 0)) else (rotalaw13_RingRoom.j1 k x0 x1 x7 x8 bt223.1 bt223.2 bt225.1 bt225.2 bt229.1 bt229.2 true)))))
def rotalaw13_RingRoom.j1 : Nat → List (S52) → Int → Bool → Int → Int → Int → List (S52) → Int → Int → Int → Bool → Option (Bool)
  | 0, _, _, _, _, _, _, _, _, _, _, _ => none
  | k + 1, x0, x1, x7, x8, x9, x10, x11, x12, x13, x14, x63 => if x63 = true then (if x7 = true then (if x10 = 130 then (if x12 = 130 then (some (x14 == 130)) else (some false)) else (some false)) else (some false)) else (rotalaw13_RingRoom.l0 k x0 x1 x7 x8 x9 x13 x14 0 x11 (x11.length : Int) 0)
def rotalaw13_RingRoom.l0 : Nat → List (S52) → Int → Bool → Int → Int → Int → Int → Int → List (S52) → Int → Int → Option (Bool)
  | 0, _, _, _, _, _, _, _, _, _, _, _ => none
  | k + 1, x0, x1, x7, x8, x9, x13, x14, x15, x77, x78, x79 => if x79 < x78 then (if 0 ≤ x79 then (if x79 < (x77.length : Int) then (rotalaw13_RingRoom.l1 k x0 x1 x7 x8 (wrap64 (x9 + ((rd_T52 x77 x79).f1))) x13 x14 (mx x15 ((rd_T52 x77 x79).f1)) x77 x78 x79 (x0.length : Int) 0 ((rd_T52 x77 x79).f0) ((rd_T52 x77 x79).f1)) else (none)) else (none)) else (if x9 = x8 then (if x1 ≥ 1 then (rotalaw13_RingRoom.j4 k x0 x1 x7 x8 x13 x14 ((x14 == 0) != (decide (x1 ≤ x15)))) else (rotalaw13_RingRoom.j4 k x0 x1 x7 x8 x13 x14 ((x14 == 0) != false))) else (rotalaw13_RingRoom.j4 k x0 x1 x7 x8 x13 x14 true))
def rotalaw13_RingRoom.l1 : Nat → List (S52) → Int → Bool → Int → Int → Int → Int → Int → List (S52) → Int → Int → Int → Int → Int → Int → Option (Bool)
  | 0, _, _, _, _, _, _, _, _, _, _, _, _, _, _, _ => none
  | k + 1, x0, x1, x7, x8, x9, x13, x14, x15, x77, x78, x79, x92, x93, x233000, x233001 => if x93 < x92 then (if 0 ≤ x93 then (if x93 < (x0.length : Int) then ((ring_Meet.f k x233000 x233001 ((rd_T52 x0 x93).f0) ((rd_T52 x0 x93).f1) x8).bind fun bt234 => (if bt234.1 = true then (some false) else (if bt234.2 = 0 then (rotalaw13_RingRoom.l1 k x0 x1 x7 x8 x9 x13 x14 x15 x77 x78 x79 x92 (wrap64 (x93 + 1)) x233000 x233001) else (some false)))) else (none)) else (none)) else (rotalaw13_RingRoom.l0 k x0 x1 x7 x8 x9 x13 x14 x15 x77 x78 (wrap64 (x79 + 1)))
def rotalaw13_RingRoom.j4 : Nat → List (S52) → Int → Bool → Int → Int → Int → Bool → Option (Bool)
  | 0, _, _, _, _, _, _, _ => none
  | k + 1, x0, x1, x7, x8, x13, x14, x127 => if x127 = true then (some false) else (if x14 = 0 then (if x13 < 0 then (rotalaw13_RingRoom.j5 k x0 x1 x7 x8 x13 x14 true) else (rotalaw13_RingRoom.j5 k x0 x1 x7 x8 x13 x14 (decide (x13 ≥ x8)))) else (rotalaw13_RingRoom.j5 k x0 x1 x7 x8 x13 x14 false))
def rotalaw13_RingRoom.j5 : Nat → List (S52) → Int → Bool → Int → Int → Int → Bool → Option (Bool)
  | 0, _, _, _, _, _, _, _ => none
  | k + 1, x0, x1, x7, x8, x13, x14, x138 => if x138 = true then (some false) else (rotalaw13_RingRoom.l2 k x0 x1 x7 x8 x13 x14 0)
def rotalaw13_RingRoom.l2 : Nat → List (S52) → Int → Bool → Int → Int → Int → Int → Option (Bool)
  | 0, _, _, _, _, _, _, _ => none
  | k + 1, x0, x1, x7, x8, x13, x14, x21 => if x21 ≤ x13 then (rotalaw13_RingRoom.j7 k x0 x1 x7 x8 x13 x14 x21 (x14 == 0)) else (rotalaw13_RingRoom.j7 k x0 x1 x7 x8 x13 x14 x21 false)
def rotalaw13_RingRoom.j7 : Nat → List (S52) → Int → Bool → Int → Int → Int → Int → Bool → Option (Bool)
  | 0, _, _, _, _, _, _, _, _ => none
  | k + 1, x0, x1, x7, x8, x13, x14, x21, x145 => if x145 = true then (rotalaw13_RingRoom.l3 k x0 x1 x7 x8 x13 x14 x21 true (x0.length : Int) 0) else (some x7)
def rotalaw13_RingRoom.l3 : Nat → List (S52) → Int → Bool → Int → Int → Int → Int → Bool → Int → Int → Option (Bool)
  | 0, _, _, _, _, _, _, _, _, _, _ => none
  | k + 1, x0, x1, x7, x8, x13, x14, x21, x22, x149, x150 => if x150 < x149 then (if 0 ≤ x150 then (if x150 < (x0.length : Int) then ((ring_Meet.f k x21 x1 ((rd_T52 x0 x150).f0) ((rd_T52 x0 x150).f1) x8).bind fun bt237 => (if bt237.2 = 0 then (if x22 = true then (rotalaw13_RingRoom.l3 k x0 x1 x7 x8 x13 x14 x21 (!bt237.1) x149 (wrap64 (x150 + 1))) else (rotalaw13_RingRoom.l3 k x0 x1 x7 x8 x13 x14 x21 false x149 (wrap64 (x150 + 1)))) else (some false))) else (none)) else (none)) else (if (x22 != (x21 == x13)) = true then (some false) else (rotalaw13_RingRoom.l2 k x0 x1 x7 x8 x13 x14 (wrap64 (x21 + 1))))
end
def rotalaw13_RingRoom.f (k : Nat) (l0 : List (S52)) (a1 : Int) (a2 : Int) : Option (Bool) := (rotalaw13_alive.f k).bind fun t222 => (if (l0.length : Int) > 20 then (rotalaw13_RingRoom.j0 k l0 a1 t222 (wrap64 (1 + (Int.tmod (wrap64 (a2)) 1000))) true) else (rotalaw13_RingRoom.j0 k l0 a1 t222 (wrap64 (1 + (Int.tmod (wrap64 (a2)) 1000))) (!t222)))
theorem rotalaw13_RingRoom.mono_l : ∀ k, (∀ y0 y1 y2 y3 y4, LeO (rotalaw13_RingRoom.j0 k y0 y1 y2 y3 y4) (rotalaw13_RingRoom.j0 (k + 1) y0 y1 y2 y3 y4)) ∧ (∀ y0 y1 y2 y3 y4 y5 y6 y7 y8 y9 y10, LeO (rotalaw13_RingRoom.j1 k y0 y1 y2 y3 y4 y5 y6 y7 y8 y9 y10) (rotalaw13_RingRoom.j1 (k + 1) y0 y1 y2 y3 y4 y5 y6 y7 y8 y9 y10)) ∧ (∀ y0 y1 y2 y3 y4 y5 y6 y7 y8 y9 y10, LeO (rotalaw13_RingRoom.l0 k y0 y1 y2 y3 y4 y5 y6 y7 y8 y9 y10) (rotalaw13_RingRoom.l0 (k + 1) y0 y1 y2 y3 y4 y5 y6 y7 y8 y9 y10)) ∧ (∀ y0 y1 y2 y3 y4 y5 y6 y7 y8 y9 y10 y11 y12 y13 y14, LeO (rotalaw13_RingRoom.l1 k y0 y1 y2 y3 y4 y5 y6 y7 y8 y9 y10 y11 y12 y13 y14) (rotalaw13_RingRoom.l1 (k + 1) y0 y1 y2 y3 y4 y5 y6 y7 y8 y9 y10 y11 y12 y13 y14)) ∧ (∀ y0 y1 y2 y3 y4 y5 y6, LeO (rotalaw13_RingRoom.j4 k y0 y1 y2 y3 y4 y5 y6) (rotalaw13_RingRoom.j4 (k + 1) y0 y1 y2 y3 y4 y5 y6)) ∧ (∀ y0 y1 y2 y3 y4 y5 y6, LeO (rotalaw13_RingRoom.j5 k y0 y1 y2 y3 y4 y5 y6) (rotalaw13_RingRoom.j5 (k + 1) y0 y1 y2 y3 y4 y5 y6)) ∧ (∀ y0 y1 y2 y3 y4 y5 y6, LeO (rotalaw13_RingRoom.l2 k y0 y1 y2 y3 y4 y5 y6) (rotalaw13_RingRoom.l2 (k + 1) y0 y1 y2 y3 y4 y5 y6)) ∧ (∀ y0 y1 y2 y3 y4 y5 y6 y7, LeO (rotalaw13_RingRoom.j7 k y0 y1 y2 y3 y4 y5 y6 y7) (rotalaw13_RingRoom.j7 (k + 1) y0 y1 y2 y3 y4 y5 y6 y7)) ∧ (∀ y0 y1 y2 y3 y4 y5 y6 y7 y8 y9, LeO (rotalaw13_RingRoom.l3 k y0 y1 y2 y3 y4 y5 y6 y7 y8 y9) (rotalaw13_RingRoom.l3 (k + 1) y0 y1 y2 y3 y4 y5 y6 y7 y8 y9))
  | 0 => ⟨fun _ _ _ _ _ r h => by simp [rotalaw13_RingRoom.j0] at h, fun _ _ _ _ _ _ _ _ _ _ _ r h => by simp [rotalaw13_RingRoom.j1] at h, fun _ _ _ _ _ _ _ _ _ _ _ r h => by simp [rotalaw13_RingRoom.l0] at h, fun _ _ _ _ _ _ _ _ _ _ _ _ _ _ _ r h => by simp [rotalaw13_RingRoom.l1] at h, fun _ _ _ _ _ _ _ r h => by simp [rotalaw13_RingRoom.j4] at h, fun _ _ _ _ _ _ _ r h => by simp [rotalaw13_RingRoom.j5] at h, fun _ _ _ _ _ _ _ r h => by simp [rotalaw13_RingRoom.l2] at h, fun _ _ _ _ _ _ _ _ r h => by simp [rotalaw13_RingRoom.j7] at h, fun _ _ _ _ _ _ _ _ _ _ r h => by simp [rotalaw13_RingRoom.l3] at h⟩
  | k + 1 => by
    obtain ⟨ih0, ih1, ih2, ih3, ih4, ih5, ih6, ih7, ih8⟩ := rotalaw13_RingRoom.mono_l k
    refine ⟨?_, ?_, ?_, ?_, ?_, ?_, ?_, ?_, ?_⟩
    · intro y0 y1 y2 y3 y4
      unfold rotalaw13_RingRoom.j0
      repeat' first
      | (with_reducible exact ih0 _ _ _ _ _)
      | (with_reducible exact ih1 _ _ _ _ _ _ _ _ _ _ _)
      | (with_reducible exact ih2 _ _ _ _ _ _ _ _ _ _ _)
      | (with_reducible exact ih3 _ _ _ _ _ _ _ _ _ _ _ _ _ _ _)
      | (with_reducible exact ih4 _ _ _ _ _ _ _)
      | (with_reducible exact ih5 _ _ _ _ _ _ _)
      | (with_reducible exact ih6 _ _ _ _ _ _ _)
      | (with_reducible exact ih7 _ _ _ _ _ _ _ _)
      | (with_reducible exact ih8 _ _ _ _ _ _ _ _ _ _)
      | (with_reducible exact ring_Covered.mono _ _ _)
      | (with_reducible exact ring_Fit.mono _ _ _ _)
      | (with_reducible exact ring_Gaps.mono _ _ _)
      | (with_reducible exact ring_Meet.mono _ _ _ _ _ _)
      | (with_reducible exact rotalaw13_alive.mono _)
      | (with_reducible exact LeO.refl _)
      | (with_reducible exact LeO.none _)
      | (with_reducible refine LeO.ite ?_ ?_)
      | (with_reducible refine LeO.bind ?_ (fun _ => ?_))
      | exact ih0 _ _ _ _ _
      | exact ih1 _ _ _ _ _ _ _ _ _ _ _
      | exact ih2 _ _ _ _ _ _ _ _ _ _ _
      | exact ih3 _ _ _ _ _ _ _ _ _ _ _ _ _ _ _
      | exact ih4 _ _ _ _ _ _ _
      | exact ih5 _ _ _ _ _ _ _
      | exact ih6 _ _ _ _ _ _ _
      | exact ih7 _ _ _ _ _ _ _ _
      | exact ih8 _ _ _ _ _ _ _ _ _ _
      | exact ring_Covered.mono _ _ _
      | exact ring_Fit.mono _ _ _ _
      | exact ring_Gaps.mono _ _ _
      | exact ring_Meet.mono _ _ _ _ _ _
      | exact rotalaw13_alive.mono _
      | exact LeO.none _
      | refine LeO.ite ?_ ?_
      | refine LeO.bind ?_ (fun _ => ?_)
    · intro y0 y1 y2 y3 y4 y5 y6 y7 y8 y9 y10
      unfold rotalaw13_RingRoom.j1
      repeat' first
      | (with_reducible exact ih0 _ _ _ _ _)
      | (with_reducible exact ih1 _ _ _ _ _ _ _ _ _ _ _)
      | (with_reducible exact ih2 _ _ _ _ _ _ _ _ _ _ _)
      | (with_reducible exact ih3 _ _ _ _ _ _ _ _ _ _ _ _ _ _ _)
      | (with_reducible exact ih4 _ _ _ _ _ _ _)
      | (with_reducible exact ih5 _ _ _ _ _ _ _)
      | (with_reducible exact ih6 _ _ _ _ _ _ _)
      | (with_reducible exact ih7 _ _ _ _ _ _ _ _)
      | (with_reducible exact ih8 _ _ _ _ _ _ _ _ _ _)
      | (with_reducible exact ring_Covered.mono _ _ _)
      | (with_reducible exact ring_Fit.mono _ _ _ _)
      | (with_reducible exact ring_Gaps.mono _ _ _)
      | (with_reducible exact ring_Meet.mono _ _ _ _ _ _)
      | (with_reducible exact rotalaw13_alive.mono _)
      | (with_reducible exact LeO.refl _)
      | (with_reducible exact LeO.none _)
      | (with_reducible refine LeO.ite ?_ ?_)
      | (with_reducible refine LeO.bind ?_ (fun _ => ?_))
      | exact ih0 _ _ _ _ _
      | exact ih1 _ _ _ _ _ _ _ _ _ _ _
      | exact ih2 _ _ _ _ _ _ _ _ _ _ _
      | exact ih3 _ _ _ _ _ _ _ _ _ _ _ _ _ _ _
      | exact ih4 _ _ _ _ _ _ _
      | exact ih5 _ _ _ _ _ _ _
      | exact ih6 _ _ _ _ _ _ _
      | exact ih7 _ _ _ _ _ _ _ _
      | exact ih8 _ _ _ _ _ _ _ _ _ _
      | exact ring_Covered.mono _ _ _
      | exact ring_Fit.mono _ _ _ _
      | exact ring_Gaps.mono _ _ _
      | exact ring_Meet.mono _ _ _ _ _ _
      | exact rotalaw13_alive.mono _
      | exact LeO.none _
      | refine LeO.ite ?_ ?_
      | refine LeO.bind ?_ (fun _ => ?_)
    · intro y0 y1 y2 y3 y4 y5 y6 y7 y8 y9 y10
      unfold rotalaw13_RingRoom.l0
      repeat' first
      | (with_reducible exact ih0 _ _ _ _ _)
      | (with_reducible exact ih1 _ _ _ _ _ _ _ _ _ _ _)
      | (with_reducible exact ih2 _ _ _ _ _ _ _ _ _ _ _)
      | (with_reducible exact ih3 _ _ _ _ _ _ _ _ _ _ _ _ _ _ _)
      | (with_reducible exact ih4 _ _ _ _ _ _ _)
      | (with_reducible exact ih5 _ _ _ _ _ _ _)
      | (with_reducible exact ih6 _ _ _ _ _ _ _)
      | (with_reducible exact ih7 _ _ _ _ _ _ _ _)
      | (with_reducible exact ih8 _ _ _ _ _ _ _ _ _ _)
      | (with_reducible exact ring_Covered.mono _ _ _)
      | (with_reducible exact ring_Fit.mono _ _ _ _)
      | (with_reducible exact ring_Gaps.mono _ _ _)
      | (with_reducible exact ring_Meet.mono _ _ _ _ _ _)
      | (with_reducible exact rotalaw13_alive.mono _)
      | (with_reducible exact LeO.refl _)
      | (with_reducible exact LeO.none _)
      | (with_reducible refine LeO.ite ?_ ?_)
      | (with_reducible refine LeO.bind ?_ (fun _ => ?_))
      | exact ih0 _ _ _ _ _
      | exact ih1 _ _ _ _ _ _ _ _ _ _ _
      | exact ih2 _ _ _ _ _ _ _ _ _ _ _
      | exact ih3 _ _ _ _ _ _ _ _ _ _ _ _ _ _ _
      | exact ih4 _ _ _ _ _ _ _
      | exact ih5 _ _ _ _ _ _ _
      | exact ih6 _ _ _ _ _ _ _
      | exact ih7 _ _ _ _ _ _ _ _
      | exact ih8 _ _ _ _ _ _ _ _ _ _
      | exact ring_Covered.mono _ _ _
      | exact ring_Fit.mono _ _ _ _
      | exact ring_Gaps.mono _ _ _
      | exact ring_Meet.mono _ _ _ _ _ _
      | exact rotalaw13_alive.mono _
      | exact LeO.none _
      | refine LeO.ite ?_ ?_
      | refine LeO.bind ?_ (fun _ => ?_)
    · intro y0 y1 y2 y3 y4 y5 y6 y7 y8 y9 y10 y11 y12 y13 y14
      unfold rotalaw13_RingRoom.l1
      repeat' first
      | (with_reducible exact ih0 _ _ _ _ _)
      | (with_reducible exact ih1 _ _ _ _ _ _ _ _ _ _ _)
      | (with_reducible exact ih2 _ _ _ _ _ _ _ _ _ _ _)
      | (with_reducible exact ih3 _ _ _ _ _ _ _ _ _ _ _ _ _ _ _)
      | (with_reducible exact ih4 _ _ _ _ _ _ _)
      | (with_reducible exact ih5 _ _ _ _ _ _ _)
      | (with_reducible exact ih6 _ _ _ _ _ _ _)
      | (with_reducible exact ih7 _ _ _ _ _ _ _ _)
      | (with_reducible exact ih8 _ _ _ _ _ _ _ _ _ _)
      | (with_reducible exact ring_Covered.mono _ _ _)
      | (with_reducible exact ring_Fit.mono _ _ _ _)
      | (with_reducible exact ring_Gaps.mono _ _ _)
      | (with_reducible exact ring_Meet.mono _ _ _ _ _ _)
      | (with_reducible exact rotalaw13_alive.mono _)
      | (with_reducible exact LeO.refl _)
      | (with_reducible exact LeO.none _)
      | (with_reducible refine LeO.ite ?_ ?_)
      | (with_reducible refine LeO.bind ?_ (fun _ => ?_))
      | exact ih0 _ _ _ _ _
      | exact ih1 _ _ _ _ _ _ _ _ _ _ _
      | exact ih2 _ _ _ _ _ _ _ _ _ _ _
      | exact ih3 _ _ _ _ _ _ _ _ _ _ _ _ _ _ _
      | exact ih4 _ _ _ _ _ _ _
      | exact ih5 _ _ _ _ _ _ _
      | exact ih6 _ _ _ _ _ _ _
      | exact ih7 _ _ _ _ _ _ _ _
      | exact ih8 _ _ _ _ _ _ _ _ _ _
      | exact ring_Covered.mono _ _ _
      | exact ring_Fit.mono _ _ _ _
      | exact ring_Gaps.mono _ _ _
      | exact ring_Meet.mono _ _ _ _ _ _
      | exact rotalaw13_alive.mono _
      | exact LeO.none _
      | refine LeO.ite ?_ ?_
      | refine LeO.bind ?_ (fun _ => ?_)
    · intro y0 y1 y2 y3 y4 y5 y6
      unfold rotalaw13_RingRoom.j4
      repeat' first
      | (with_reducible exact ih0 _ _ _ _ _)
      | (with_reducible exact ih1 _ _ _ _ _ _ _ _ _ _ _)
      | (with_reducible exact ih2 _ _ _ _ _ _ _ _ _ _ _)
      | (with_reducible exact ih3 _ _ _ _ _ _ _ _ _ _ _ _ _ _ _)
      | (with_reducible exact ih4 _ _ _ _ _ _ _)
      | (with_reducible exact ih5 _ _ _ _ _ _ _)
      | (with_reducible exact ih6 _ _ _ _ _ _ _)
      | (with_reducible exact ih7 _ _ _ _ _ _ _ _)
      | (with_reducible exact ih8 _ _ _ _ _ _ _ _ _ _)
      | (with_reducible exact ring_Covered.mono _ _ _)
      | (with_reducible exact ring_Fit.mono _ _ _ _)
      | (with_reducible exact ring_Gaps.mono _ _ _)
      | (with_reducible exact ring_Meet.mono _ _ _ _ _ _)
      | (with_reducible exact rotalaw13_alive.mono _)
      | (with_reducible exact LeO.refl _)
      | (with_reducible exact LeO.none _)
      | (with_reducible refine LeO.ite ?_ ?_)
      | (with_reducible refine LeO.bind ?_ (fun _ => ?_))
      | exact ih0 _ _ _ _ _
      | exact ih1 _ _ _ _ _ _ _ _ _ _ _
      | exact ih2 _ _ _ _ _ _ _ _ _ _ _
      | exact ih3 _ _ _ _ _ _ _ _ _ _ _ _ _ _ _
      | exact ih4 _ _ _ _ _ _ _
      | exact ih5 _ _ _ _ _ _ _
      | exact ih6 _ _ _ _ _ _ _
      | exact ih7 _ _ _ _ _ _ _ _
      | exact ih8 _ _ _ _ _ _ _ _ _ _
      | exact ring_Covered.mono _ _ _
      | exact ring_Fit.mono _ _ _ _
      | exact ring_Gaps.mono _ _ _
      | exact ring_Meet.mono _ _ _ _ _ _
      | exact rotalaw13_alive.mono _
      | exact LeO.none _
      | refine LeO.ite ?_ ?_
      | refine LeO.bind ?_ (fun _ => ?_)
    · intro y0 y1 y2 y3 y4 y5 y6
      unfold rotalaw13_RingRoom.j5
      repeat' first
      | (with_reducible exact ih0 _ _ _ _ _)
      | (with_reducible exact ih1 _ _ _ _ _ _ _ _ _ _ _)
      | (with_reducible exact ih2 _ _ _ _ _ _ _ _ _ _ _)
      | (with_reducible exact ih3 _ _ _ _ _ _ _ _ _ _ _ _ _ _ _)
      | (with_reducible exact ih4 _ _ _ _ _ _ _)
      | (with_reducible exact ih5 _ _ _ _ _ _ _)
      | (with_reducible exact ih6 _ _ _ _ _ _ _)
      | (with_reducible exact ih7 _ _ _ _ _ _ _ _)
      | (with_reducible exact ih8 _ _ _ _ _ _ _ _ _ _)
      | (with_reducible exact ring_Covered.mono _ _ _)
      | (with_reducible exact ring_Fit.mono _ _ _ _)
      | (with_reducible exact ring_Gaps.mono _ _ _)
      | (with_reducible exact ring_Meet.mono _ _ _ _ _ _)
      | (with_reducible exact rotalaw13_alive.mono _)
      | (with_reducible exact LeO.refl _)
      | (with_reducible exact LeO.none _)
      | (with_reducible refine LeO.ite ?_ ?_)
      | (with_reducible refine LeO.bind ?_ (fun _ => ?_))
      | exact ih0 _ _ _ _ _
      | exact ih1 _ _ _ _ _ _ _ _ _ _ _
      | exact ih2 _ _ _ _ _ _ _ _ _ _ _
      | exact ih3 _ _ _ _ _ _ _ _ _ _ _ _ _ _ _
      | exact ih4 _ _ _ _ _ _ _
      | exact ih5 _ _ _ _ _ _ _
      | exact ih6 _ _ _ _ _ _ _
      | exact ih7 _ _ _ _ _ _ _ _
      | exact ih8 _ _ _ _ _ _ _ _ _ _
      | exact ring_Covered.mono _ _ _
      | exact ring_Fit.mono _ _ _ _
      | exact ring_Gaps.mono _ _ _
      | exact ring_Meet.mono _ _ _ _ _ _
      | exact rotalaw13_alive.mono _
      | exact LeO.none _
      | refine LeO.ite ?_ ?_
      | refine LeO.bind ?_ (fun _ => ?_)
    · intro y0 y1 y2 y3 y4 y5 y6
      unfold rotalaw13_RingRoom.l2
      repeat' first
      | (with_reducible exact ih0 _ _ _ _ _)
      | (with_reducible exact ih1 _ _ _ _ _ _ _ _ _ _ _)
      | (with_reducible exact ih2 _ _ _ _ _ _ _ _ _ _ _)
      | (with_reducible exact ih3 _ _ _ _ _ _ _ _ _ _ _ _ _ _ _)
      | (with_reducible exact ih4 _ _ _ _ _ _ _)
      | (with_reducible exact ih5 _ _ _ _ _ _ _)
      | (with_reducible exact ih6 _ _ _ _ _ _ _)
      | (with_reducible exact ih7 _ _ _ _ _ _ _ _)
      | (with_reducible exact ih8 _ _ _ _ _ _ _ _ _ _)
      | (with_reducible exact ring_Covered.mono _ _ _)
      | (with_reducible exact ring_Fit.mono _ _ _ _)
      | (with_reducible exact ring_Gaps.mono _ _ _)
      | (with_reducible exact ring_Meet.mono _ _ _ _ _ _)
      | (with_reducible exact rotalaw13_alive.mono _)
      | (with_reducible exact LeO.refl _)
      | (with_reducible exact LeO.none _)
      | (with_reducible refine LeO.ite ?_ ?_)
      | (with_reducible refine LeO.bind ?_ (fun _ => ?_))
      | exact ih0 _ _ _ _ _
      | exact ih1 _ _ _ _ _ _ _ _ _ _ _
      | exact ih2 _ _ _ _ _ _ _ _ _ _ _
      | exact ih3 _ _ _ _ _ _ _ _ _ _ _ _ _ _ _
      | exact ih4 _ _ _ _ _ _ _
      | exact ih5 _ _ _ _ _ _ _
      | exact ih6 _ _ _ _ _ _ _
      | exact ih7 _ _ _ _ _ _ _ _
      | exact ih8 _ _ _ _ _ _ _ _ _ _
      | exact ring_Covered.mono _ _ _
      | exact ring_Fit.mono _ _ _ _
      | exact ring_Gaps.mono _ _ _
      | exact ring_Meet.mono _ _ _ _ _ _
      | exact rotalaw13_alive.mono _
      | exact LeO.none _
      | refine LeO.ite ?_ ?_
      | refine LeO.bind ?_ (fun _ => ?_)
    · intro y0 y1 y2 y3 y4 y5 y6 y7
      unfold rotalaw13_RingRoom.j7
      repeat' first
      | (with_reducible exact ih0 _ _ _ _ _)
      | (with_reducible exact ih1 _ _ _ _ _ _ _ _ _ _ _)
      | (with_reducible exact ih2 _ _ _ _ _ _ _ _ _ _ _)
      | (with_reducible exact ih3 _ _ _ _ _ _ _ _ _ _ _ _ _ _ _)
      | (with_reducible exact ih4 _ _ _ _ _ _ _)
      | (with_reducible exact ih5 _ _ _ _ _ _ _)
      | (with_reducible exact ih6 _ _ _ _ _ _ _)
      | (with_reducible exact ih7 _ _ _ _ _ _ _ _)
      | (with_reducible exact ih8 _ _ _ _ _ _ _ _ _ _)
      | (with_reducible exact ring_Covered.mono _ _ _)
      | (with_reducible exact ring_Fit.mono _ _ _ _)
      | (with_reducible exact ring_Gaps.mono _ _ _)
      | (with_reducible exact ring_Meet.mono _ _ _ _ _ _)
      | (with_reducible exact rotalaw13_alive.mono _)
      | (with_reducible exact LeO.refl _)
      | (with_reducible exact LeO.none _)
      | (with_reducible refine LeO.ite ?_ ?_)
      | (with_reducible refine LeO.bind ?_ (fun _ => ?_))
      | exact ih0 _ _ _ _ _
      | exact ih1 _ _ _ _ _ _ _ _ _ _ _
      | exact ih2 _ _ _ _ _ _ _ _ _ _ _
      | exact ih3 _ _ _ _ _ _ _ _ _ _ _ _ _ _ _
      | exact ih4 _ _ _ _ _ _ _
      | exact ih5 _ _ _ _ _ _ _
      | exact ih6 _ _ _ _ _ _ _
      | exact ih7 _ _ _ _ _ _ _ _
      | exact ih8 _ _ _ _ _ _ _ _ _ _
      | exact ring_Covered.mono _ _ _
      | exact ring_Fit.mono _ _ _ _
      | exact ring_Gaps.mono _ _ _
      | exact ring_Meet.mono _ _ _ _ _ _
      | exact rotalaw13_alive.mono _
      | exact LeO.none _
      | refine LeO.ite ?_ ?_
      | refine LeO.bind ?_ (fun _ => ?_)
    · intro y0 y1 y2 y3 y4 y5 y6 y7 y8 y9
      unfold rotalaw13_RingRoom.l3
      repeat' first
      | (with_reducible exact ih0 _ _ _ _ _)
      | (with_reducible exact ih1 _ _ _ _ _ _ _ _ _ _ _)
      | (with_reducible exact ih2 _ _ _ _ _ _ _ _ _ _ _)
      | (with_reducible exact ih3 _ _ _ _ _ _ _ _ _ _ _ _ _ _ _)
      | (with_reducible exact ih4 _ _ _ _ _ _ _)
      | (with_reducible exact ih5 _ _ _ _ _ _ _)
      | (with_reducible exact ih6 _ _ _ _ _ _ _)
      | (with_reducible exact ih7 _ _ _ _ _ _ _ _)
      | (with_reducible exact ih8 _ _ _ _ _ _ _ _ _ _)
      | (with_reducible exact ring_Covered.mono _ _ _)
      | (with_reducible exact ring_Fit.mono _ _ _ _)
      | (with_reducible exact ring_Gaps.mono _ _ _)
      | (with_reducible exact ring_Meet.mono _ _ _ _ _ _)
      | (with_reducible exact rotalaw13_alive.mono _)
      | (with_reducible exact LeO.refl _)
      | (with_reducible exact LeO.none _)
      | (with_reducible refine LeO.ite ?_ ?_)
      | (with_reducible refine LeO.bind ?_ (fun _ => ?_))
      | exact ih0 _ _ _ _ _
      | exact ih1 _ _ _ _ _ _ _ _ _ _ _
      | exact ih2 _ _ _ _ _ _ _ _ _ _ _
      | exact ih3 _ _ _ _ _ _ _ _ _ _ _ _ _ _ _
      | exact ih4 _ _ _ _ _ _ _
      | exact ih5 _ _ _ _ _ _ _
      | exact ih6 _ _ _ _ _ _ _
      | exact ih7 _ _ _ _ _ _ _ _
      | exact ih8 _ _ _ _ _ _ _ _ _ _
      | exact ring_Covered.mono _ _ _
      | exact ring_Fit.mono _ _ _ _
      | exact ring_Gaps.mono _ _ _
      | exact ring_Meet.mono _ _ _ _ _ _
      | exact rotalaw13_alive.mono _
      | exact LeO.none _
      | refine LeO.ite ?_ ?_
      | refine LeO.bind ?_ (fun _ => ?_)
theorem rotalaw13_RingRoom.mono : ∀ a0 a1 a2 k, LeO (rotalaw13_RingRoom.f k a0 a1 a2) (rotalaw13_RingRoom.f (k + 1) a0 a1 a2) := by
  intro a0 a1 a2 k
  obtain ⟨ih0, ih1, ih2, ih3, ih4, ih5, ih6, ih7, ih8⟩ := rotalaw13_RingRoom.mono_l k
  unfold rotalaw13_RingRoom.f
  repeat' first
      | (with_reducible exact ih0 _ _ _ _ _)
      | (with_reducible exact ih1 _ _ _ _ _ _ _ _ _ _ _)
      | (with_reducible exact ih2 _ _ _ _ _ _ _ _ _ _ _)
      | (with_reducible exact ih3 _ _ _ _ _ _ _ _ _ _ _ _ _ _ _)
      | (with_reducible exact ih4 _ _ _ _ _ _ _)
      | (with_reducible exact ih5 _ _ _ _ _ _ _)
      | (with_reducible exact ih6 _ _ _ _ _ _ _)
      | (with_reducible exact ih7 _ _ _ _ _ _ _ _)
      | (with_reducible exact ih8 _ _ _ _ _ _ _ _ _ _)
      | (with_reducible exact ring_Covered.mono _ _ _)
      | (with_reducible exact ring_Fit.mono _ _ _ _)
      | (with_reducible exact ring_Gaps.mono _ _ _)
      | (with_reducible exact ring_Meet.mono _ _ _ _ _ _)
      | (with_reducible exact rotalaw13_alive.mono _)
      | (with_reducible exact LeO.refl _)
      | (with_reducible exact LeO.none _)
      | (with_reducible refine LeO.ite ?_ ?_)
      | (with_reducible refine LeO.bind ?_ (fun _ => ?_))
      | exact ih0 _ _ _ _ _
      | exact ih1 _ _ _ _ _ _ _ _ _ _ _
      | exact ih2 _ _ _ _ _ _ _ _ _ _ _
      | exact ih3 _ _ _ _ _ _ _ _ _ _ _ _ _ _ _
      | exact ih4 _ _ _ _ _ _ _
      | exact ih5 _ _ _ _ _ _ _
      | exact ih6 _ _ _ _ _ _ _
      | exact ih7 _ _ _ _ _ _ _ _
      | exact ih8 _ _ _ _ _ _ _ _ _ _
      | exact ring_Covered.mono _ _ _
      | exact ring_Fit.mono _ _ _ _
      | exact ring_Gaps.mono _ _ _
      | exact ring_Meet.mono _ _ _ _ _ _
      | exact rotalaw13_alive.mono _
      | exact LeO.none _
      | refine LeO.ite ?_ ?_
      | refine LeO.bind ?_ (fun _ => ?_)
def rotalaw13_RingRoom.T19 : Bool × List (List Nat × List Nat) := (true, [([], []), ([], []), ([], []), ([1, 2], [1, 2]), ([3], [3]), ([], []), ([0, 4, 5], [0, 4, 5]), ([6], [6]), ([7], [7]), ([7], [7]), ([8, 6, 0, 1, 2, 3, 4, 5, 6, 7, 8], [8]), ([9, 10, 0, 1, 2, 3, 4, 5, 6, 7, 8, 9, 10], [9])])
def rotalaw13_RingRoom.B19 : List Nat := [0, 0, 0, 6, 14, 0, 63, 127, 255, 255, 511, 2047]
theorem rotalaw13_RingRoom.tab19 : rtab .any (opsOf Try.f9 19) = rotalaw13_RingRoom.T19 := by kernel_rfl
theorem rotalaw13_RingRoom.bits19 : waitsOk rotalaw13_RingRoom.T19.2 rotalaw13_RingRoom.B19 = true := by kernel_rfl
set_option maxHeartbeats 8000000 in
set_option maxRecDepth 100000 in
theorem rotalaw13_RingRoom.calls (k : Nat) (A0 : Option Addr) (c0 : Nat) (l0 : List (S52)) (a1 : Int) (a2 : Int) (r : Bool) (w : World) (hr0 : Kd.C k52 w A0 l0.length l0) (hc0 : l0.length ≤ c0) (h : rotalaw13_RingRoom.f k l0 a1 a2 = some r) :
    Calls Try.prog 9 #[.slice A0 l0.length c0, .int .i64 a1, .int .u16 a2] w fun e w' => e = .returned (.bool r) ∧ Below w.heap.size w w' := by
  have hu52 := Try.underlying52
  have HR0 := Aside0.mk hr0
  have HC0 := Aside0.mk hc0
  clear hr0 hc0
  have HB := Aside0.mk (Below.refl w.heap.size w)
  have H : ((rotalaw13_alive.f k).bind fun t222 => (if (l0.length : Int) > 20 then (rotalaw13_RingRoom.j0 k l0 a1 t222 (wrap64 (1 + (Int.tmod (wrap64 (a2)) 1000))) true) else (rotalaw13_RingRoom.j0 k l0 a1 t222 (wrap64 (1 + (Int.tmod (wrap64 (a2)) 1000))) (!t222)))) = some r := h
  clear h
  replace H := Option.bind_eq_some_iff.mp H
  obtain ⟨t222, A40, H⟩ := H
  replace H : (if (l0.length : Int) > 20 then (rotalaw13_RingRoom.j0 k l0 a1 t222 (wrap64 (1 + (Int.tmod (wrap64 (a2)) 1000))) true) else (rotalaw13_RingRoom.j0 k l0 a1 t222 (wrap64 (1 + (Int.tmod (wrap64 (a2)) 1000))) (!t222))) = some r := H
  have A4 := Aside0.mk A40
  clear A40
  have HC5 := Aside0.mk H
  clear H
  go_enter Try.func9, Try.ntmps9
  go_upto_region 3 with (first | ((with_reducible refine gate_callee (f := 18) rfl ?_); refine goesL_ (some 26) rfl rfl Try.func18 (by kernel_rfl) rfl #[] rfl (by (try simp only [List.map_toArray, List.map_cons, List.map_nil]); first | done | rfl | (simp only [List.length_drop, List.length_take]; rfl)) ?_; (with_reducible refine (rotalaw13_alive.calls k  t222 _ A4.out).mono ?_); rintro e w6 ⟨rfl, hb⟩; refine ⟨_, rfl, ?_⟩; have n0_ := Aside0.mk (below_step (by repeat (first | (with_reducible first | exact HB.out | apply below_alloc | apply pw_below_drewN | apply below_drew1) | exact HB.out)) hb); clear HB; have HB := n0_; clear n0_; (try clear hb); (try clear hb2); (try clear hk); (try clear hi)))
  (try simp only [Act.put, List.setIfInBounds_toArray, List.set_cons_zero, List.set_cons_succ])
  go_cut [37] (fun v37 wc => ∃ (kq : Nat) (x37_4 : Bool), v37 = .bool x37_4 ∧ Aside0 (rotalaw13_RingRoom.j0 kq l0 a1 t222 (wrap64 (1 + (Int.tmod (wrap64 (a2)) 1000))) x37_4 = some r) ∧ Aside0 (kq ≤ k) ∧ Aside0 (Below w.heap.size w wc))
  case first =>
    have H := HC5.out
    clear HC5
    by_cases c7 : (l0.length : Int) > 20
    · rw [if_pos c7] at H
      have c7b0 : decide (20 < (l0.length : Int)) = true := decide_eq_true c7
      have c7b1 : decide (20 < l0.length) = true := decide_eq_true (by omega)
      clear c7
      (first | rw [c7b0] | (simp only [i64_w, i32_w]; rw [c7b0]) | skip)
      have H' := Aside0.mk H
      clear H
      go_wp2
      go_meet
      case rel => exact ⟨_, (true), (by first | rfl | (simp; done) | (simp [*]; done)), H', ⟨by first | omega | exact Nat.le_refl _⟩, ⟨by repeat (first | (with_reducible first | exact HB.out | apply below_alloc | apply pw_below_drewN | apply below_drew1) | exact HB.out)⟩⟩
    · rw [if_neg c7] at H
      have c7b0 : decide (20 < (l0.length : Int)) = false := decide_eq_false c7
      have c7b1 : decide (20 < l0.length) = false := decide_eq_false (by omega)
      clear c7
      (first | rw [c7b0] | (simp only [i64_w, i32_w]; rw [c7b0]) | skip)
      have H' := Aside0.mk H
      clear H
      go_wp2
      go_meet
      case rel => exact ⟨_, (!t222), (by first | rfl | (simp; done) | (simp [*]; done)), H', ⟨by first | omega | exact Nat.le_refl _⟩, ⟨by repeat (first | (with_reducible first | exact HB.out | apply below_alloc | apply pw_below_drewN | apply below_drew1) | exact HB.out)⟩⟩
  case rest =>
    clear HC5
    try clear c1
    try clear p2
    try clear p6
    try clear c7
    try clear c7b0
    try clear c7b1
    obtain ⟨kq, x37_4, rfl, HA, HJ4, HB⟩ := hcut
    cases kq with
    | zero => exact absurd HA.out (by simp [rotalaw13_RingRoom.j0])
    | succ kj4 =>
      have H := HA.out
      clear HA
      simp only [rotalaw13_RingRoom.j0] at H
      by_cases c8 : x37_4 = true
      · subst c8
        have H1 : (some t222) = some r := by rw [if_pos rfl] at H; exact H
        clear H
        have H := H1
        clear H1
        obtain rfl := Option.some.inj H
        go_wp2
        go_ret
        exact ⟨by first | rfl | (simp [errW_none, errW_some] <;> rfl) | (simp [*, errW_none, errW_some] <;> rfl), by repeat (first | (with_reducible first | exact HB.out | apply below_alloc | apply pw_below_drewN | apply below_drew1) | exact HB.out)⟩
      · replace c8 := Bool.eq_false_iff.mpr c8
        subst c8
        have H1 : ((ring_Covered.f kj4 l0 (wrap64 (1 + (Int.tmod (wrap64 (a2)) 1000)))).bind fun bt223 => ((ring_Gaps.f kj4 l0 (wrap64 (1 + (Int.tmod (wrap64 (a2)) 1000)))).bind fun bt225 => ((ring_Fit.f kj4 l0 a1 (wrap64 (1 + (Int.tmod (wrap64 (a2)) 1000)))).bind fun bt229 => (if bt223.2 = 0 then (rotalaw13_RingRoom.j1 kj4 l0 a1 t222 (wrap64 (1 + (Int.tmod (wrap64 (a2)) 1000))) bt223.1 bt223.2 bt225.1 bt225.2 bt229.1 bt229.2 (bt225.2 != 0)) else (rotalaw13_RingRoom.j1 kj4 l0 a1 t222 (wrap64 (1 + (Int.tmod (wrap64 (a2)) 1000))) bt223.1 bt223.2 bt225.1 bt225.2 bt229.1 bt229.2 true))))) = some r := by rw [if_neg (show ¬ (false = true) by decide)] at H; exact H
        clear H
        have H := H1
        clear H1
        replace H := Option.bind_eq_some_iff.mp H
        obtain ⟨⟨t223, t224⟩, A90, H⟩ := H
        replace H : ((ring_Gaps.f kj4 l0 (wrap64 (1 + (Int.tmod (wrap64 (a2)) 1000)))).bind fun bt225 => ((ring_Fit.f kj4 l0 a1 (wrap64 (1 + (Int.tmod (wrap64 (a2)) 1000)))).bind fun bt229 => (if t224 = 0 then (rotalaw13_RingRoom.j1 kj4 l0 a1 t222 (wrap64 (1 + (Int.tmod (wrap64 (a2)) 1000))) t223 t224 bt225.1 bt225.2 bt229.1 bt229.2 (bt225.2 != 0)) else (rotalaw13_RingRoom.j1 kj4 l0 a1 t222 (wrap64 (1 + (Int.tmod (wrap64 (a2)) 1000))) t223 t224 bt225.1 bt225.2 bt229.1 bt229.2 true)))) = some r := H
        have A9 := Aside0.mk A90
        clear A90
        replace H := Option.bind_eq_some_iff.mp H
        obtain ⟨⟨t225, t226⟩, A100, H⟩ := H
        replace H : ((ring_Fit.f kj4 l0 a1 (wrap64 (1 + (Int.tmod (wrap64 (a2)) 1000)))).bind fun bt229 => (if t224 = 0 then (rotalaw13_RingRoom.j1 kj4 l0 a1 t222 (wrap64 (1 + (Int.tmod (wrap64 (a2)) 1000))) t223 t224 t225 t226 bt229.1 bt229.2 (t226 != 0)) else (rotalaw13_RingRoom.j1 kj4 l0 a1 t222 (wrap64 (1 + (Int.tmod (wrap64 (a2)) 1000))) t223 t224 t225 t226 bt229.1 bt229.2 true))) = some r := H
        have A10 := Aside0.mk A100
        clear A100
        replace H := Option.bind_eq_some_iff.mp H
        obtain ⟨⟨t229, t230⟩, A110, H⟩ := H
        replace H : (if t224 = 0 then (rotalaw13_RingRoom.j1 kj4 l0 a1 t222 (wrap64 (1 + (Int.tmod (wrap64 (a2)) 1000))) t223 t224 t225 t226 t229 t230 (t226 != 0)) else (rotalaw13_RingRoom.j1 kj4 l0 a1 t222 (wrap64 (1 + (Int.tmod (wrap64 (a2)) 1000))) t223 t224 t225 t226 t229 t230 true)) = some r := H
        have A11 := Aside0.mk A110
        clear A110
        have HC12 := Aside0.mk H
        clear H
        go_upto_region 8 with (first | ((with_reducible refine gate_callee (f := 27) rfl ?_); refine goesL_ (some 42) rfl rfl Try.func27 (by kernel_rfl) rfl #[.slice A0 l0.length c0, .int .i64 (wrap64 (1 + (Int.tmod (wrap64 (a2)) 1000)))] rfl (by (try simp only [List.map_toArray, List.map_cons, List.map_nil]); first | done | rfl | (simp only [List.length_drop, List.length_take]; rfl)) ?_; (with_reducible refine (ring_Covered.calls kj4 _ _ l0 (wrap64 (1 + (Int.tmod (wrap64 (a2)) 1000))) t223 t224 _ ?side1 ?side2 A9.out).mono ?_); (case side1 => repeat (first | exact (Kd.C_below HR0.out HB.out) | (with_reducible refine Kd.C_alloc ?_ _) | (with_reducible refine Kd.C_drewN ?_ _) | (with_reducible refine Kd.C_drew ?_))); (case side2 => exact HC0.out); rintro e w13 ⟨rfl, hb⟩; refine ⟨_, rfl, ?_⟩; have n0_ := Aside0.mk (below_step (by repeat (first | (with_reducible first | exact HB.out | apply below_alloc | apply pw_below_drewN | apply below_drew1) | exact HB.out)) hb); clear HB; have HB := n0_; clear n0_; (try clear hb); (try clear hb2); (try clear hk); (try clear hi)) | ((with_reducible refine gate_callee (f := 28) rfl ?_); refine goesL_ (some 48) rfl rfl Try.func28 (by kernel_rfl) rfl #[.slice A0 l0.length c0, .int .i64 (wrap64 (1 + (Int.tmod (wrap64 (a2)) 1000)))] rfl (by (try simp only [List.map_toArray, List.map_cons, List.map_nil]); first | done | rfl | (simp only [List.length_drop, List.length_take]; rfl)) ?_; (with_reducible refine (ring_Gaps.calls kj4 _ _ l0 (wrap64 (1 + (Int.tmod (wrap64 (a2)) 1000))) t225 t226 _ ?side1 ?side2 A10.out).mono ?_); (case side1 => repeat (first | exact (Kd.C_below HR0.out HB.out) | (with_reducible refine Kd.C_alloc ?_ _) | (with_reducible refine Kd.C_drewN ?_ _) | (with_reducible refine Kd.C_drew ?_))); (case side2 => exact HC0.out); rintro e w14 ⟨v227, rfl, ho0, hb⟩; refine ⟨_, rfl, ?_⟩; have n0_ := Aside0.mk (Kd.R_lower ho0 (below_size (by repeat (first | (with_reducible first | exact HB.out | apply below_alloc | apply pw_below_drewN | apply below_drew1) | exact HB.out)))); have n1_ := Aside0.mk (below_step (by repeat (first | (with_reducible first | exact HB.out | apply below_alloc | apply pw_below_drewN | apply below_drew1) | exact HB.out)) hb); clear HB; have HO228 := n0_; have HB := n1_; clear n0_ n1_; (try clear hb); (try clear hb2); (try clear hk); (try clear hi); (try clear ho0)) | ((with_reducible refine gate_callee (f := 31) rfl ?_); refine goesL_ (some 55) rfl rfl Try.func31 (by kernel_rfl) rfl #[.slice A0 l0.length c0, .int .i64 a1, .int .i64 (wrap64 (1 + (Int.tmod (wrap64 (a2)) 1000)))] rfl (by (try simp only [List.map_toArray, List.map_cons, List.map_nil]); first | done | rfl | (simp only [List.length_drop, List.length_take]; rfl)) ?_; (with_reducible refine (ring_Fit.calls kj4 _ _ l0 a1 (wrap64 (1 + (Int.tmod (wrap64 (a2)) 1000))) t229 t230 _ ?side1 ?side2 A11.out).mono ?_); (case side1 => repeat (first | exact (Kd.C_below HR0.out HB.out) | (with_reducible refine Kd.C_alloc ?_ _) | (with_reducible refine Kd.C_drewN ?_ _) | (with_reducible refine Kd.C_drew ?_))); (case side2 => exact HC0.out); rintro e w15 ⟨rfl, hb⟩; refine ⟨_, rfl, ?_⟩; have n0_ := Aside0.mk (Kd.R_below (by (with_reducible repeat (first | apply Kd.R_alloc | apply Kd.R_drewN | apply Kd.R_drew)); exact HO228.out) hb); have n1_ := Aside0.mk (below_step (by repeat (first | (with_reducible first | exact HB.out | apply below_alloc | apply pw_below_drewN | apply below_drew1) | exact HB.out)) hb); clear HO228; clear HB; have HO228 := n0_; have HB := n1_; clear n0_ n1_; (try clear hb); (try clear hb2); (try clear hk); (try clear hi)))
        (try simp only [Act.put, List.setIfInBounds_toArray, List.set_cons_zero, List.set_cons_succ])
        go_cut [63] (fun v63 wc => ∃ (kq : Nat) (x63_11 : Bool), v63 = .bool x63_11 ∧ Aside0 (rotalaw13_RingRoom.j1 kq l0 a1 t222 (wrap64 (1 + (Int.tmod (wrap64 (a2)) 1000))) t223 t224 t225 t226 t229 t230 x63_11 = some r) ∧ Aside0 (kq ≤ kj4) ∧ Aside0 (Kd.R k52 52 wc w.heap.size (fun _ => True) v227 t225) ∧ Aside0 (Below w.heap.size w wc))
        case first =>
          have H := HC12.out
          clear HC12
          by_cases c16 : t224 = 0
          · rw [if_pos c16] at H
            have c16b0 : (t224 == 0) = true := beq_iff_eq.mpr c16
            have c16b1 : (t224 != 0) = false := bne_eq_false_iff_eq.mpr c16
            clear c16
            (first | rw [c16b0] | (simp only [i64_w, i32_w]; rw [c16b0]) | skip)
            have H' := Aside0.mk H
            clear H
            go_wp2
            go_meet
            case rel => exact ⟨_, ((t226 != 0)), (by first | rfl | (simp; done) | (simp [*]; done)), H', ⟨by have := HJ4.out; first | omega | exact Nat.le_refl _⟩, ⟨by (with_reducible repeat (first | apply Kd.R_alloc | apply Kd.R_drewN | apply Kd.R_drew)); exact HO228.out⟩, ⟨by repeat (first | (with_reducible first | exact HB.out | apply below_alloc | apply pw_below_drewN | apply below_drew1) | exact HB.out)⟩⟩
          · rw [if_neg c16] at H
            have c16b0 : (t224 == 0) = false := beq_eq_false_iff_ne.mpr c16
            have c16b1 : (t224 != 0) = true := bne_iff_ne.mpr c16
            (first | rw [c16b0] | (simp only [i64_w, i32_w]; rw [c16b0]) | skip)
            have H' := Aside0.mk H
            clear H
            go_wp2
            go_meet
            case rel => exact ⟨_, (true), (by first | rfl | (simp; done) | (simp [*]; done)), H', ⟨by have := HJ4.out; first | omega | exact Nat.le_refl _⟩, ⟨by (with_reducible repeat (first | apply Kd.R_alloc | apply Kd.R_drewN | apply Kd.R_drew)); exact HO228.out⟩, ⟨by repeat (first | (with_reducible first | exact HB.out | apply below_alloc | apply pw_below_drewN | apply below_drew1) | exact HB.out)⟩⟩
        case rest =>
          clear HC12
          try clear c1
          try clear c2
          try clear p2
          try clear c3
          try clear p6
          try clear c7
          try clear c7b0
          try clear c7b1
          try clear c8
          try clear c9
          try clear c16
          try clear c16b0
          try clear c16b1
          try clear p2
          try clear p6
          obtain ⟨kq, x63_11, rfl, HA, HJ11, HO_11, HB⟩ := hcut
          cases kq with
          | zero => exact absurd HA.out (by simp [rotalaw13_RingRoom.j1])
          | succ kj11 =>
            have H := HA.out
            clear HA
            simp only [rotalaw13_RingRoom.j1] at H
            by_cases c17 : x63_11 = true
            · subst c17
              have H1 : (if t222 = true then (if t224 = 130 then (if t226 = 130 then (some (t230 == 130)) else (some false)) else (some false)) else (some false)) = some r := by rw [if_pos rfl] at H; exact H
              clear H
              have H := H1
              clear H1
              by_cases c18 : t222 = true
              · subst c18
                have H1 : (if t224 = 130 then (if t226 = 130 then (some (t230 == 130)) else (some false)) else (some false)) = some r := by rw [if_pos rfl] at H; exact H
                clear H
                have H := H1
                clear H1
                by_cases c19 : t224 = 130
                · rw [if_pos c19] at H
                  have c19b0 : (t224 == 130) = true := beq_iff_eq.mpr c19
                  have c19b1 : (t224 != 130) = false := bne_eq_false_iff_eq.mpr c19
                  clear c19
                  by_cases c20 : t226 = 130
                  · rw [if_pos c20] at H
                    have c20b0 : (t226 == 130) = true := beq_iff_eq.mpr c20
                    have c20b1 : (t226 != 130) = false := bne_eq_false_iff_eq.mpr c20
                    clear c20
                    obtain rfl := Option.some.inj H
                    go_wp2
                    go_ret
                    exact ⟨by first | rfl | (simp [errW_none, errW_some] <;> rfl) | (simp [*, errW_none, errW_some] <;> rfl), by repeat (first | (with_reducible first | exact HB.out | apply below_alloc | apply pw_below_drewN | apply below_drew1) | exact HB.out)⟩
                  · rw [if_neg c20] at H
                    have c20b0 : (t226 == 130) = false := beq_eq_false_iff_ne.mpr c20
                    have c20b1 : (t226 != 130) = true := bne_iff_ne.mpr c20
                    obtain rfl := Option.some.inj H
                    go_wp2
                    go_ret
                    exact ⟨by first | rfl | (simp [errW_none, errW_some] <;> rfl) | (simp [*, errW_none, errW_some] <;> rfl), by repeat (first | (with_reducible first | exact HB.out | apply below_alloc | apply pw_below_drewN | apply below_drew1) | exact HB.out)⟩
                · rw [if_neg c19] at H
                  have c19b0 : (t224 == 130) = false := beq_eq_false_iff_ne.mpr c19
                  have c19b1 : (t224 != 130) = true := bne_iff_ne.mpr c19
                  obtain rfl := Option.some.inj H
                  go_wp2
                  go_ret
                  exact ⟨by first | rfl | (simp [errW_none, errW_some] <;> rfl) | (simp [*, errW_none, errW_some] <;> rfl), by repeat (first | (with_reducible first | exact HB.out | apply below_alloc | apply pw_below_drewN | apply below_drew1) | exact HB.out)⟩
              · replace c18 := Bool.eq_false_iff.mpr c18
                subst c18
                have H1 : (some false) = some r := by rw [if_neg (show ¬ (false = true) by decide)] at H; exact H
                clear H
                have H := H1
                clear H1
                obtain rfl := Option.some.inj H
                go_wp2
                go_ret
                exact ⟨by first | rfl | (simp [errW_none, errW_some] <;> rfl) | (simp [*, errW_none, errW_some] <;> rfl), by repeat (first | (with_reducible first | exact HB.out | apply below_alloc | apply pw_below_drewN | apply below_drew1) | exact HB.out)⟩
            · replace c17 := Bool.eq_false_iff.mpr c17
              subst c17
              have H1 : (rotalaw13_RingRoom.l0 kj11 l0 a1 t222 (wrap64 (1 + (Int.tmod (wrap64 (a2)) 1000))) t223 t229 t230 0 t225 (t225.length : Int) 0) = some r := by rw [if_neg (show ¬ (false = true) by decide)] at H; exact H
              clear H
              have H := H1
              clear H1
              have H' := Aside0.mk H
              clear H
              obtain ⟨Ao21, co21, eo21⟩ := Kd.R_slice HO_11.out
              subst eo21
              go_wp2
              go_loopg [9, 15, 79] kj11 (fun kq v9 v15 v79 w' => ∃ (x9_3 : Int) (x15_3 : Int) (x79_3 : Int), v9 = .int .i64 x9_3 ∧ v15 = .int .i64 x15_3 ∧ v79 = .int .i64 x79_3 ∧ Aside0 (rotalaw13_RingRoom.l0 kq l0 a1 t222 (wrap64 (1 + (Int.tmod (wrap64 (a2)) 1000))) x9_3 t229 t230 x15_3 t225 (t225.length : Int) x79_3 = some r) ∧ Aside0 (kq ≤ kj11) ∧ Aside0 (Kd.R k52 52 w' w.heap.size (fun _ => True) (.slice Ao21 t225.length co21) t225) ∧ Aside0 (Below w.heap.size w w'))
              case atStart => exact ⟨(t223), (0), (0), (by first | rfl | (simp; done) | (simp [*]; done)), (by first | rfl | (simp; done) | (simp [*]; done)), (by first | rfl | (simp; done) | (simp [*]; done)), H', ⟨Nat.le_refl _⟩, ⟨by (with_reducible repeat (first | apply Kd.R_alloc | apply Kd.R_drewN | apply Kd.R_drew)); exact HO_11.out⟩, ⟨by repeat (first | (with_reducible first | exact HB.out | apply below_alloc | apply pw_below_drewN | apply below_drew1) | exact HB.out)⟩⟩
              case round =>
                clear H'
                try clear c1
                try clear c2
                try clear p2
                try clear c3
                try clear p6
                try clear c7
                try clear c7b0
                try clear c7b1
                try clear c8
                try clear c9
                try clear c16
                try clear c16b0
                try clear c16b1
                try clear c17
                try clear c18
                try clear c19
                try clear c19b0
                try clear c19b1
                try clear c20
                try clear c20b0
                try clear c20b1
                try clear p2
                try clear p6
                obtain ⟨x9_3, x15_3, x79_3, rfl, rfl, rfl, HA, HK3, HO_77, HB⟩ := hrel
                cases gk with
                | zero => exact absurd HA.out (by simp [rotalaw13_RingRoom.l0])
                | succ k3 =>
                  have H := HA.out
                  clear HA
                  simp only [rotalaw13_RingRoom.l0] at H
                  by_cases c22 : x79_3 < (t225.length : Int)
                  · rw [if_pos c22] at H
                    have c22b0 : decide (x79_3 < (t225.length : Int)) = true := decide_eq_true c22
                    clear c22
                    by_cases c23 : 0 ≤ x79_3
                    · rw [if_pos c23] at H
                      have c23b0 : decide (0 ≤ x79_3) = true := decide_eq_true c23
                      clear c23
                      by_cases c24 : x79_3 < (t225.length : Int)
                      · rw [if_pos c24] at H
                        have c24b0 : decide (x79_3 < (t225.length : Int)) = true := decide_eq_true c24
                        clear c24
                        obtain ⟨ji25, hji25⟩ : ∃ j_ : Int, (mx x15_3 ((rd_T52 t225 x79_3).f1)) = j_ := ⟨_, rfl⟩
                        replace H : (rotalaw13_RingRoom.l1 k3 l0 a1 t222 (wrap64 (1 + (Int.tmod (wrap64 (a2)) 1000))) (wrap64 (x9_3 + ((rd_T52 t225 x79_3).f1))) t229 t230 ji25 t225 (t225.length : Int) x79_3 (l0.length : Int) 0 ((rd_T52 t225 x79_3).f0) ((rd_T52 t225 x79_3).f1)) = some r := by first | (rw [hji25] at H; exact H) | (simp only [hji25] at H ⊢; exact H)
                        have hji25_ : (if x15_3 < ((rd_T52 t225 x79_3).f1) then ((rd_T52 t225 x79_3).f1) else x15_3) = ji25 := hji25
                        have H' := Aside0.mk H
                        clear H
                        have p231 : 0 ≤ (x79_3 : Int) := of_decide_eq_true (by first | (with_reducible assumption) | assumption)
                        have q231 : x79_3 < (t225.length : Int) := of_decide_eq_true (by first | (with_reducible assumption) | assumption)
                        obtain ⟨ad231, e231, hx231_0, hx231_1⟩ := at_T52 (Kd.R_reads' HO_77.out).2.2 x79_3 p231 q231
                        cases e231
                        replace p231 := eq_true p231
                        replace q231 := eq_true q231
                        go_wp2_with (first | ((with_reducible refine gate_dst (N := 17) rfl ?_); refine box_event ?hg (N := 17) ?hd (cs := #[.int .i64 0, .int .i64 0]) (t := 52) ?hr ?_; (case hd => rfl); (case hg => rfl); (case hr => first | (go_simp; done) | (go_simp; rfl)); intro gb232 hg w26 hbox hb; have n0_ := Aside0.mk (Kd.R_below (Kd.R_elderB (by (with_reducible repeat (first | apply Kd.R_alloc | apply Kd.R_drewN | apply Kd.R_drew)); exact HO_77.out) gb232 (Nat.le_of_eq hg.symm)) hb); have n1_ := Aside0.mk (below_step (by repeat (first | (with_reducible first | exact HB.out | apply below_alloc | apply pw_below_drewN | apply below_drew1) | exact HB.out)) hb); have n2_ := Aside0.mk (hbox); have n3_ := Aside0.mk ((by rw [hg]; exact (below_size (by repeat (first | (with_reducible first | exact HB.out | apply below_alloc | apply pw_below_drewN | apply below_drew1) | exact HB.out))) : w.heap.size ≤ gb232)); have n4_ := Aside0.mk ((by rw [hg]; exact (below_size (by repeat (first | (with_reducible first | exact HB.out | apply below_alloc | apply pw_below_drewN | apply below_drew1) | exact HB.out))) : w.heap.size ≤ gb232)); clear HO_77; clear HB; have HO_77 := n0_; have HB := n1_; have BK232 := n2_; have GW232 := n3_; have GE232 := n4_; clear n0_ n1_ n2_ n3_ n4_; clear hb hbox hg; have hcz27_0 : w26.cell? ⟨gb232, 0, none⟩ = some (.int .i64 0) := (blk_cell BK232.out 0).trans rfl; have hcz27_1 : w26.cell? ⟨gb232, 1, none⟩ = some (.int .i64 0) := (blk_cell BK232.out 1).trans rfl; have hfz27_0 := blk_frozen BK232.out 0; have hfz27_1 := blk_frozen BK232.out 1))
                        go_loopg [93] k3 (fun kq v93 w' => ∃ (x93_4 : Int), v93 = .int .i64 x93_4 ∧ Aside0 (rotalaw13_RingRoom.l1 kq l0 a1 t222 (wrap64 (1 + (Int.tmod (wrap64 (a2)) 1000))) (wrap64 (x9_3 + ((rd_T52 t225 x79_3).f1))) t229 t230 ji25 t225 (t225.length : Int) x79_3 (l0.length : Int) x93_4 ((rd_T52 t225 x79_3).f0) ((rd_T52 t225 x79_3).f1) = some r) ∧ Aside0 (kq ≤ k3) ∧ Aside0 (Kd.R k52 52 w' w.heap.size (fun k_ => k_ ≠ gb232) (.slice (some ad231) t225.length co21) t225) ∧ Aside0 (w'.heap[gb232]? = some (.cells #[.int .i64 ((rd_T52 t225 x79_3).f0), .int .i64 ((rd_T52 t225 x79_3).f1)] 52 (0, 0))) ∧ Aside0 (Below w.heap.size w w'))
                        case atStart => exact ⟨(0), (by first | rfl | (simp; done) | (simp [*]; done)), H', ⟨Nat.le_refl _⟩, ⟨by (with_reducible repeat (first | apply Kd.R_alloc | apply Kd.R_drewN | apply Kd.R_drew)); exact Kd.R_mono (Kd.R_far (p := ⟨gb232, 1, none⟩) (Kd.R_far (p := ⟨gb232, 0, none⟩) (Kd.R_mono HO_77.out (fun k_ hk => (⟨hk, hk.2⟩ : _ ∧ k_ ≠ gb232))) (fun _ hk => hk.2) (.int .i64 ((rd_T52 t225 x79_3).f0))) (fun _ hk => hk.2) (.int .i64 ((rd_T52 t225 x79_3).f1))) (fun _ hk => hk.1.2)⟩, ⟨by (with_reducible repeat (first | refine blk_drewN ?_ _ | refine blk_drew ?_ | refine blk_alloc ?_ _)); refine blk_put (cs := #[.int .i64 ((rd_T52 t225 x79_3).f0), .int .i64 0]) ?_ 1 _ rfl; (with_reducible repeat (first | refine blk_drewN ?_ _ | refine blk_drew ?_ | refine blk_alloc ?_ _)); refine blk_put (cs := #[.int .i64 0, .int .i64 0]) ?_ 0 _ rfl; (with_reducible repeat (first | refine blk_drewN ?_ _ | refine blk_drew ?_ | refine blk_alloc ?_ _)); exact BK232.out⟩, ⟨by repeat (first | (with_reducible first | exact HB.out | apply below_alloc | apply pw_below_drewN | apply below_drew1 | refine below_set ?_ GE232.out) | exact HB.out)⟩⟩
                        case round =>
                          clear H'
                          try clear c1
                          try clear c2
                          try clear p2
                          try clear q2
                          try clear hx2
                          try clear c3
                          try clear p6
                          try clear c7
                          try clear c7b0
                          try clear c7b1
                          try clear c8
                          try clear c9
                          try clear c16
                          try clear c16b0
                          try clear c16b1
                          try clear c17
                          try clear c18
                          try clear c19
                          try clear c19b0
                          try clear c19b1
                          try clear c20
                          try clear c20b0
                          try clear c20b1
                          try clear c22
                          try clear c22b0
                          try clear c23
                          try clear c23b0
                          try clear p23
                          try clear q23
                          try clear hx23
                          try clear c24
                          try clear c24b0
                          try clear c27
                          try clear hcz27_0
                          try clear hcz27_1
                          try clear hfz27_0
                          try clear hfz27_1
                          try clear hx231_0
                          try clear hx231_1
                          try clear p2
                          try clear p231
                          try clear p6
                          try clear q231
                          obtain ⟨x93_4, rfl, HA, HK4, HO_77, BK232, HB⟩ := hrel
                          cases gk with
                          | zero => exact absurd HA.out (by simp [rotalaw13_RingRoom.l1])
                          | succ k4 =>
                            have H := HA.out
                            clear HA
                            simp only [rotalaw13_RingRoom.l1] at H
                            by_cases c28 : x93_4 < (l0.length : Int)
                            · rw [if_pos c28] at H
                              have c28b0 : decide (x93_4 < (l0.length : Int)) = true := decide_eq_true c28
                              clear c28
                              by_cases c29 : 0 ≤ x93_4
                              · rw [if_pos c29] at H
                                have c29b0 : decide (0 ≤ x93_4) = true := decide_eq_true c29
                                clear c29
                                by_cases c30 : x93_4 < (l0.length : Int)
                                · rw [if_pos c30] at H
                                  have c30b0 : decide (x93_4 < (l0.length : Int)) = true := decide_eq_true c30
                                  clear c30
                                  replace H := Option.bind_eq_some_iff.mp H
                                  obtain ⟨⟨t234, t235⟩, A310, H⟩ := H
                                  replace H : (if t234 = true then (some false) else (if t235 = 0 then (rotalaw13_RingRoom.l1 k4 l0 a1 t222 (wrap64 (1 + (Int.tmod (wrap64 (a2)) 1000))) (wrap64 (x9_3 + ((rd_T52 t225 x79_3).f1))) t229 t230 ji25 t225 (t225.length : Int) x79_3 (l0.length : Int) (wrap64 (x93_4 + 1)) ((rd_T52 t225 x79_3).f0) ((rd_T52 t225 x79_3).f1)) else (some false))) = some r := H
                                  have A31 := Aside0.mk A310
                                  clear A310
                                  by_cases c32 : t234 = true
                                  · subst c32
                                    have H1 : (some false) = some r := by rw [if_pos rfl] at H; exact H
                                    clear H
                                    have H := H1
                                    clear H1
                                    obtain rfl := Option.some.inj H
                                    try go_wp2
                                    have n0_ := Aside0.mk (Kd.R_drew HO_77.out)
                                    have n1_ := Aside0.mk (blk_drew BK232.out)
                                    have n2_ := Aside0.mk (below_drew1 HB.out)
                                    clear HO_77
                                    clear BK232
                                    clear HB
                                    have HO_77 := n0_
                                    have BK232 := n1_
                                    have HB := n2_
                                    clear n0_ n1_ n2_
                                    have p233 : 0 ≤ (x93_4 : Int) := of_decide_eq_true (by first | (with_reducible assumption) | assumption)
                                    have q233 : x93_4 < (l0.length : Int) := of_decide_eq_true (by first | (with_reducible assumption) | assumption)
                                    obtain ⟨ad233, e233, hx233_0, hx233_1⟩ := at_T52 HR0.out x93_4 p233 q233
                                    have hw233_1 := hx233_1
                                    have hw233_0 := hx233_0
                                    cases e233
                                    replace hx233_0 := (HB.out.cell (World.block_lt_of_cell? w _ hx233_0)).trans hx233_0
                                    replace hx233_1 := (HB.out.cell (World.block_lt_of_cell? w _ hx233_1)).trans hx233_1
                                    replace p233 := eq_true p233
                                    replace q233 := eq_true q233
                                    refine start_ (n := 12) (S := fun w' => w'.cell? ⟨gb232, 0, none⟩ = some (.int .i64 ((rd_T52 t225 x79_3).f0)) ∧ w'.cell? ⟨gb232, 1, none⟩ = some (.int .i64 ((rd_T52 t225 x79_3).f1)) ∧ w'.cell? (ad233.add ((x93_4).toNat * 2)) = some (.int .i64 ((rd_T52 l0 x93_4).f0)) ∧ w'.cell? ⟨(ad233.add ((x93_4).toNat * 2)).block, (ad233.add ((x93_4).toNat * 2)).off + 1, none⟩ = some (.int .i64 ((rd_T52 l0 x93_4).f1))) (ds := []) #[false, false, false, false, false, false, false, false, false, false, false, false] (by kernel_rfl) rfl rfl ⟨(blk_cell BK232.out 0).trans rfl, (blk_cell BK232.out 1).trans rfl, ((HB.out.cell (World.block_lt_of_cell? w _ hw233_0)).trans hw233_0), ((HB.out.cell (World.block_lt_of_cell? w _ hw233_1)).trans hw233_1)⟩ (fun hHeld => ?_); refine with_tabW rotalaw13_RingRoom.tab19 rotalaw13_RingRoom.bits19 (fun HT_ HW_ => ?_)
                                    generalize wr.drew = w33 at HO_77 BK232 HB hx233_0 hx233_1 hHeld ⊢
                                    refine pure_ (i := 1) (N := some 98) (v := ?_) (a' := ?_) #[false, true, false, false, false, false, false, false, false, false, false, false] rfl rfl (any_of HT_.out (by kernel_rfl)) (fun _ _ _ h => h) (Or.inl ⟨by rfl, ?_⟩) ?_ ?_
                                    rotate_left
                                    · intro w'
                                      go_simp
                                      with_reducible rfl
                                    rotate_left
                                    · simp only [Act.put, List.setIfInBounds_toArray, List.set_cons_zero, List.set_cons_succ, i64_w, i32_w]
                                      rfl
                                    refine pure_ (i := 2) (N := some 99) (v := ?_) (a' := ?_) #[false, true, true, false, false, false, false, false, false, false, false, false] rfl rfl (any_of HT_.out (by kernel_rfl)) (fun _ _ _ h => h) (Or.inl ⟨by rfl, ?_⟩) ?_ ?_
                                    rotate_left
                                    · intro w'
                                      go_simp
                                      with_reducible rfl
                                    rotate_left
                                    · simp only [Act.put, List.setIfInBounds_toArray, List.set_cons_zero, List.set_cons_succ, i64_w, i32_w]
                                      rfl
                                    refine pure_ (i := 3) (N := some 100) (v := ?_) (a' := ?_) #[false, true, true, true, false, false, false, false, false, false, false, false] rfl rfl (any_of HT_.out (by kernel_rfl)) (fun _ _ _ h => h) (Or.inl ⟨by rfl, ?_⟩) ?_ ?_
                                    rotate_left
                                    · intro w'
                                      go_simp
                                      with_reducible rfl
                                    rotate_left
                                    · simp only [Act.put, List.setIfInBounds_toArray, List.set_cons_zero, List.set_cons_succ, i64_w, i32_w]
                                      rfl
                                    refine pure_ (i := 5) (N := some 102) (v := ?_) (a' := ?_) #[false, true, true, true, false, true, false, false, false, false, false, false] rfl rfl (any_of HT_.out (by kernel_rfl)) (fun _ _ _ h => h) (Or.inl ⟨by rfl, ?_⟩) ?_ ?_
                                    rotate_left
                                    · intro w'
                                      go_simp
                                      with_reducible rfl
                                    rotate_left
                                    · simp only [Act.put, List.setIfInBounds_toArray, List.set_cons_zero, List.set_cons_succ, i64_w, i32_w]
                                      rfl
                                    refine take_ (i := 0) (N := some 97) (v := ?_) (a' := ?_) #[true, true, true, true, false, true, false, false, false, false, false, false] rfl rfl (take_ofW HT_.out HW_.out (by kernel_rfl)) (fun _ _ _ h => h) (Or.inl ⟨by rfl, ?_⟩) hHeld ?_ ?_
                                    rotate_left
                                    · rintro w' ⟨s0, s1, s2, s3⟩
                                      go_simp
                                      with_reducible rfl
                                    rotate_left
                                    · simp only [Act.put, List.setIfInBounds_toArray, List.set_cons_zero, List.set_cons_succ, i64_w, i32_w]
                                      rfl
                                    refine take_ (i := 4) (N := some 101) (v := ?_) (a' := ?_) #[true, true, true, true, true, true, false, false, false, false, false, false] rfl rfl (take_ofW HT_.out HW_.out (by kernel_rfl)) (fun _ _ _ h => h) (Or.inl ⟨by rfl, ?_⟩) hHeld ?_ ?_
                                    rotate_left
                                    · rintro w' ⟨s0, s1, s2, s3⟩
                                      go_simp
                                      with_reducible rfl
                                    rotate_left
                                    · simp only [Act.put, List.setIfInBounds_toArray, List.set_cons_zero, List.set_cons_succ, i64_w, i32_w]
                                      rfl
                                    refine one_ (i := 6) (N := some 103) #[true, true, true, true, true, true, true, false, false, false, false, false] rfl rfl (one_of HT_.out (by kernel_rfl)) (by decide) (fun K hK => ?_)
                                    refine goes_ Try.func29 (by kernel_rfl) rfl #[.agg #[.int .i64 ((rd_T52 t225 x79_3).f0), .int .i64 ((rd_T52 t225 x79_3).f1)], .agg #[.int .i64 ((rd_T52 l0 x93_4).f0), .int .i64 ((rd_T52 l0 x93_4).f1)], .int .i64 (wrap64 (1 + (Int.tmod (wrap64 (a2)) 1000)))] (by rfl) rfl rfl (by (try simp only [List.map_toArray, List.map_cons, List.map_nil]); first | done | rfl | (simp only [List.length_drop, List.length_take]; rfl)) ?_
                                    with_reducible refine (ring_Meet.calls k4 ((rd_T52 t225 x79_3).f0) ((rd_T52 t225 x79_3).f1) ((rd_T52 l0 x93_4).f0) ((rd_T52 l0 x93_4).f1) (wrap64 (1 + (Int.tmod (wrap64 (a2)) 1000))) true t235 _ A31.out).mono ?_
                                    rintro e w34 ⟨rfl, hb⟩
                                    refine ⟨_, rfl, ?_⟩
                                    have n0_ := Aside0.mk (Kd.R_below (by (with_reducible repeat (first | apply Kd.R_alloc | apply Kd.R_drewN | apply Kd.R_drew)); exact HO_77.out) hb)
                                    have n1_ := Aside0.mk (blk_below (g := gb232) (o := .cells #[.int .i64 ((rd_T52 t225 x79_3).f0), .int .i64 ((rd_T52 t225 x79_3).f1)] 52 (0, 0)) (by (with_reducible repeat (first | refine blk_drewN ?_ _ | refine blk_drew ?_ | refine blk_alloc ?_ _)); exact BK232.out) hb)
                                    have n2_ := Aside0.mk (below_step (by repeat (first | (with_reducible first | exact HB.out | apply below_alloc | apply pw_below_drewN | apply below_drew1 | refine below_set ?_ GE232.out) | exact HB.out)) hb)
                                    clear HO_77
                                    clear BK232
                                    clear HB
                                    have HO_77 := n0_
                                    have BK232 := n1_
                                    have HB := n2_
                                    clear n0_ n1_ n2_
                                    (try clear hb)
                                    (try clear hb2)
                                    (try clear hk)
                                    (try clear hi)
                                    refine hK.out _ _ ⟨(blk_cell BK232.out 0).trans rfl, (blk_cell BK232.out 1).trans rfl, ((HB.out.cell (World.block_lt_of_cell? w _ hw233_0)).trans hw233_0), ((HB.out.cell (World.block_lt_of_cell? w _ hw233_1)).trans hw233_1)⟩ (fun hHeld => ?_)
                                    clear hK K
                                    refine norm_ (a' := ?_) ?_ ?_
                                    rotate_left
                                    · show Act.put _ (some 103) _ = _
                                      simp only [Act.put, List.setIfInBounds_toArray, List.set_cons_zero, List.set_cons_succ, i64_w, i32_w]
                                      rfl
                                    refine pure_ (i := 7) (N := some 96) (v := ?_) (a' := ?_) #[true, true, true, true, true, true, true, true, false, false, false, false] rfl rfl (any_of HT_.out (by kernel_rfl)) (fun _ _ _ h => h) (Or.inl ⟨by rfl, ?_⟩) ?_ ?_
                                    rotate_left
                                    · intro w'
                                      go_simp
                                      with_reducible rfl
                                    rotate_left
                                    · simp only [Act.put, List.setIfInBounds_toArray, List.set_cons_zero, List.set_cons_succ, i64_w, i32_w]
                                      rfl
                                    refine pure_ (i := 8) (N := some 104) (v := ?_) (a' := ?_) #[true, true, true, true, true, true, true, true, true, false, false, false] rfl rfl (any_of HT_.out (by kernel_rfl)) (fun _ _ _ h => h) (Or.inl ⟨by rfl, ?_⟩) ?_ ?_
                                    rotate_left
                                    · intro w'
                                      go_simp
                                      with_reducible rfl
                                    rotate_left
                                    · simp only [Act.put, List.setIfInBounds_toArray, List.set_cons_zero, List.set_cons_succ, i64_w, i32_w]
                                      rfl
                                    refine pure_ (i := 9) (N := some 105) (v := ?_) (a' := ?_) #[true, true, true, true, true, true, true, true, true, true, false, false] rfl rfl (any_of HT_.out (by kernel_rfl)) (fun _ _ _ h => h) (Or.inl ⟨by rfl, ?_⟩) ?_ ?_
                                    rotate_left
                                    · intro w'
                                      go_simp
                                      with_reducible rfl
                                    rotate_left
                                    · simp only [Act.put, List.setIfInBounds_toArray, List.set_cons_zero, List.set_cons_succ, i64_w, i32_w]
                                      rfl
                                    refine pure_ (i := 10) (N := some 19) (v := ?_) (a' := ?_) #[true, true, true, true, true, true, true, true, true, true, true, false] rfl rfl (any_of HT_.out (by kernel_rfl)) (fun _ _ _ h => h) (Or.inl ⟨by rfl, ?_⟩) ?_ ?_
                                    rotate_left
                                    · intro w'
                                      go_simp
                                      with_reducible rfl
                                    rotate_left
                                    · simp only [Act.put, List.setIfInBounds_toArray, List.set_cons_zero, List.set_cons_succ, i64_w, i32_w]
                                      rfl
                                    refine pure_ (i := 11) (N := some 20) (v := ?_) (a' := ?_) #[true, true, true, true, true, true, true, true, true, true, true, true] rfl rfl (any_of HT_.out (by kernel_rfl)) (fun _ _ _ h => h) (Or.inl ⟨by rfl, ?_⟩) ?_ ?_
                                    rotate_left
                                    · intro w'
                                      go_simp
                                      with_reducible rfl
                                    rotate_left
                                    · simp only [Act.put, List.setIfInBounds_toArray, List.set_cons_zero, List.set_cons_succ, i64_w, i32_w]
                                      rfl
                                    refine done_ (done_of HT_.out (by kernel_rfl)) ?_
                                    try go_wp2
                                    go_ret
                                    exact ⟨by first | rfl | (simp [errW_none, errW_some] <;> rfl) | (simp only [← hji25]; first | rfl | (simp [errW_none, errW_some] <;> rfl)) | (simp [*, errW_none, errW_some] <;> rfl), by repeat (first | (with_reducible first | exact HB.out | apply below_alloc | apply pw_below_drewN | apply below_drew1 | refine below_set ?_ GE232.out) | exact HB.out)⟩
                                  · replace c32 := Bool.eq_false_iff.mpr c32
                                    subst c32
                                    have H1 : (if t235 = 0 then (rotalaw13_RingRoom.l1 k4 l0 a1 t222 (wrap64 (1 + (Int.tmod (wrap64 (a2)) 1000))) (wrap64 (x9_3 + ((rd_T52 t225 x79_3).f1))) t229 t230 ji25 t225 (t225.length : Int) x79_3 (l0.length : Int) (wrap64 (x93_4 + 1)) ((rd_T52 t225 x79_3).f0) ((rd_T52 t225 x79_3).f1)) else (some false)) = some r := by rw [if_neg (show ¬ (false = true) by decide)] at H; exact H
                                    clear H
                                    have H := H1
                                    clear H1
                                    by_cases c35 : t235 = 0
                                    · rw [if_pos c35] at H
                                      have c35b0 : (t235 == 0) = true := beq_iff_eq.mpr c35
                                      have c35b1 : (t235 != 0) = false := bne_eq_false_iff_eq.mpr c35
                                      clear c35
                                      have H' := Aside0.mk H
                                      clear H
                                      try go_wp2
                                      have n0_ := Aside0.mk (Kd.R_drew HO_77.out)
                                      have n1_ := Aside0.mk (blk_drew BK232.out)
                                      have n2_ := Aside0.mk (below_drew1 HB.out)
                                      clear HO_77
                                      clear BK232
                                      clear HB
                                      have HO_77 := n0_
                                      have BK232 := n1_
                                      have HB := n2_
                                      clear n0_ n1_ n2_
                                      have p233 : 0 ≤ (x93_4 : Int) := of_decide_eq_true (by first | (with_reducible assumption) | assumption)
                                      have q233 : x93_4 < (l0.length : Int) := of_decide_eq_true (by first | (with_reducible assumption) | assumption)
                                      obtain ⟨ad233, e233, hx233_0, hx233_1⟩ := at_T52 HR0.out x93_4 p233 q233
                                      have hw233_1 := hx233_1
                                      have hw233_0 := hx233_0
                                      cases e233
                                      replace hx233_0 := (HB.out.cell (World.block_lt_of_cell? w _ hx233_0)).trans hx233_0
                                      replace hx233_1 := (HB.out.cell (World.block_lt_of_cell? w _ hx233_1)).trans hx233_1
                                      replace p233 := eq_true p233
                                      replace q233 := eq_true q233
                                      refine start_ (n := 12) (S := fun w' => w'.cell? ⟨gb232, 0, none⟩ = some (.int .i64 ((rd_T52 t225 x79_3).f0)) ∧ w'.cell? ⟨gb232, 1, none⟩ = some (.int .i64 ((rd_T52 t225 x79_3).f1)) ∧ w'.cell? (ad233.add ((x93_4).toNat * 2)) = some (.int .i64 ((rd_T52 l0 x93_4).f0)) ∧ w'.cell? ⟨(ad233.add ((x93_4).toNat * 2)).block, (ad233.add ((x93_4).toNat * 2)).off + 1, none⟩ = some (.int .i64 ((rd_T52 l0 x93_4).f1))) (ds := []) #[false, false, false, false, false, false, false, false, false, false, false, false] (by kernel_rfl) rfl rfl ⟨(blk_cell BK232.out 0).trans rfl, (blk_cell BK232.out 1).trans rfl, ((HB.out.cell (World.block_lt_of_cell? w _ hw233_0)).trans hw233_0), ((HB.out.cell (World.block_lt_of_cell? w _ hw233_1)).trans hw233_1)⟩ (fun hHeld => ?_); refine with_tabW rotalaw13_RingRoom.tab19 rotalaw13_RingRoom.bits19 (fun HT_ HW_ => ?_)
                                      generalize wr.drew = w36 at HO_77 BK232 HB hx233_0 hx233_1 hHeld ⊢
                                      refine pure_ (i := 1) (N := some 98) (v := ?_) (a' := ?_) #[false, true, false, false, false, false, false, false, false, false, false, false] rfl rfl (any_of HT_.out (by kernel_rfl)) (fun _ _ _ h => h) (Or.inl ⟨by rfl, ?_⟩) ?_ ?_
                                      rotate_left
                                      · intro w'
                                        go_simp
                                        with_reducible rfl
                                      rotate_left
                                      · simp only [Act.put, List.setIfInBounds_toArray, List.set_cons_zero, List.set_cons_succ, i64_w, i32_w]
                                        rfl
                                      refine pure_ (i := 2) (N := some 99) (v := ?_) (a' := ?_) #[false, true, true, false, false, false, false, false, false, false, false, false] rfl rfl (any_of HT_.out (by kernel_rfl)) (fun _ _ _ h => h) (Or.inl ⟨by rfl, ?_⟩) ?_ ?_
                                      rotate_left
                                      · intro w'
                                        go_simp
                                        with_reducible rfl
                                      rotate_left
                                      · simp only [Act.put, List.setIfInBounds_toArray, List.set_cons_zero, List.set_cons_succ, i64_w, i32_w]
                                        rfl
                                      refine pure_ (i := 3) (N := some 100) (v := ?_) (a' := ?_) #[false, true, true, true, false, false, false, false, false, false, false, false] rfl rfl (any_of HT_.out (by kernel_rfl)) (fun _ _ _ h => h) (Or.inl ⟨by rfl, ?_⟩) ?_ ?_
                                      rotate_left
                                      · intro w'
                                        go_simp
                                        with_reducible rfl
                                      rotate_left
                                      · simp only [Act.put, List.setIfInBounds_toArray, List.set_cons_zero, List.set_cons_succ, i64_w, i32_w]
                                        rfl
                                      refine pure_ (i := 5) (N := some 102) (v := ?_) (a' := ?_) #[false, true, true, true, false, true, false, false, false, false, false, false] rfl rfl (any_of HT_.out (by kernel_rfl)) (fun _ _ _ h => h) (Or.inl ⟨by rfl, ?_⟩) ?_ ?_
                                      rotate_left
                                      · intro w'
                                        go_simp
                                        with_reducible rfl
                                      rotate_left
                                      · simp only [Act.put, List.setIfInBounds_toArray, List.set_cons_zero, List.set_cons_succ, i64_w, i32_w]
                                        rfl
                                      refine take_ (i := 0) (N := some 97) (v := ?_) (a' := ?_) #[true, true, true, true, false, true, false, false, false, false, false, false] rfl rfl (take_ofW HT_.out HW_.out (by kernel_rfl)) (fun _ _ _ h => h) (Or.inl ⟨by rfl, ?_⟩) hHeld ?_ ?_
                                      rotate_left
                                      · rintro w' ⟨s0, s1, s2, s3⟩
                                        go_simp
                                        with_reducible rfl
                                      rotate_left
                                      · simp only [Act.put, List.setIfInBounds_toArray, List.set_cons_zero, List.set_cons_succ, i64_w, i32_w]
                                        rfl
                                      refine take_ (i := 4) (N := some 101) (v := ?_) (a' := ?_) #[true, true, true, true, true, true, false, false, false, false, false, false] rfl rfl (take_ofW HT_.out HW_.out (by kernel_rfl)) (fun _ _ _ h => h) (Or.inl ⟨by rfl, ?_⟩) hHeld ?_ ?_
                                      rotate_left
                                      · rintro w' ⟨s0, s1, s2, s3⟩
                                        go_simp
                                        with_reducible rfl
                                      rotate_left
                                      · simp only [Act.put, List.setIfInBounds_toArray, List.set_cons_zero, List.set_cons_succ, i64_w, i32_w]
                                        rfl
                                      refine one_ (i := 6) (N := some 103) #[true, true, true, true, true, true, true, false, false, false, false, false] rfl rfl (one_of HT_.out (by kernel_rfl)) (by decide) (fun K hK => ?_)
                                      refine goes_ Try.func29 (by kernel_rfl) rfl #[.agg #[.int .i64 ((rd_T52 t225 x79_3).f0), .int .i64 ((rd_T52 t225 x79_3).f1)], .agg #[.int .i64 ((rd_T52 l0 x93_4).f0), .int .i64 ((rd_T52 l0 x93_4).f1)], .int .i64 (wrap64 (1 + (Int.tmod (wrap64 (a2)) 1000)))] (by rfl) rfl rfl (by (try simp only [List.map_toArray, List.map_cons, List.map_nil]); first | done | rfl | (simp only [List.length_drop, List.length_take]; rfl)) ?_
                                      with_reducible refine (ring_Meet.calls k4 ((rd_T52 t225 x79_3).f0) ((rd_T52 t225 x79_3).f1) ((rd_T52 l0 x93_4).f0) ((rd_T52 l0 x93_4).f1) (wrap64 (1 + (Int.tmod (wrap64 (a2)) 1000))) false t235 _ A31.out).mono ?_
                                      rintro e w37 ⟨rfl, hb⟩
                                      refine ⟨_, rfl, ?_⟩
                                      have n0_ := Aside0.mk (Kd.R_below (by (with_reducible repeat (first | apply Kd.R_alloc | apply Kd.R_drewN | apply Kd.R_drew)); exact HO_77.out) hb)
                                      have n1_ := Aside0.mk (blk_below (g := gb232) (o := .cells #[.int .i64 ((rd_T52 t225 x79_3).f0), .int .i64 ((rd_T52 t225 x79_3).f1)] 52 (0, 0)) (by (with_reducible repeat (first | refine blk_drewN ?_ _ | refine blk_drew ?_ | refine blk_alloc ?_ _)); exact BK232.out) hb)
                                      have n2_ := Aside0.mk (below_step (by repeat (first | (with_reducible first | exact HB.out | apply below_alloc | apply pw_below_drewN | apply below_drew1 | refine below_set ?_ GE232.out) | exact HB.out)) hb)
                                      clear HO_77
                                      clear BK232
                                      clear HB
                                      have HO_77 := n0_
                                      have BK232 := n1_
                                      have HB := n2_
                                      clear n0_ n1_ n2_
                                      (try clear hb)
                                      (try clear hb2)
                                      (try clear hk)
                                      (try clear hi)
                                      refine hK.out _ _ ⟨(blk_cell BK232.out 0).trans rfl, (blk_cell BK232.out 1).trans rfl, ((HB.out.cell (World.block_lt_of_cell? w _ hw233_0)).trans hw233_0), ((HB.out.cell (World.block_lt_of_cell? w _ hw233_1)).trans hw233_1)⟩ (fun hHeld => ?_)
                                      clear hK K
                                      refine norm_ (a' := ?_) ?_ ?_
                                      rotate_left
                                      · show Act.put _ (some 103) _ = _
                                        simp only [Act.put, List.setIfInBounds_toArray, List.set_cons_zero, List.set_cons_succ, i64_w, i32_w]
                                        rfl
                                      refine pure_ (i := 7) (N := some 96) (v := ?_) (a' := ?_) #[true, true, true, true, true, true, true, true, false, false, false, false] rfl rfl (any_of HT_.out (by kernel_rfl)) (fun _ _ _ h => h) (Or.inl ⟨by rfl, ?_⟩) ?_ ?_
                                      rotate_left
                                      · intro w'
                                        go_simp
                                        with_reducible rfl
                                      rotate_left
                                      · simp only [Act.put, List.setIfInBounds_toArray, List.set_cons_zero, List.set_cons_succ, i64_w, i32_w]
                                        rfl
                                      refine pure_ (i := 8) (N := some 104) (v := ?_) (a' := ?_) #[true, true, true, true, true, true, true, true, true, false, false, false] rfl rfl (any_of HT_.out (by kernel_rfl)) (fun _ _ _ h => h) (Or.inl ⟨by rfl, ?_⟩) ?_ ?_
                                      rotate_left
                                      · intro w'
                                        go_simp
                                        with_reducible rfl
                                      rotate_left
                                      · simp only [Act.put, List.setIfInBounds_toArray, List.set_cons_zero, List.set_cons_succ, i64_w, i32_w]
                                        rfl
                                      refine pure_ (i := 9) (N := some 105) (v := ?_) (a' := ?_) #[true, true, true, true, true, true, true, true, true, true, false, false] rfl rfl (any_of HT_.out (by kernel_rfl)) (fun _ _ _ h => h) (Or.inl ⟨by rfl, ?_⟩) ?_ ?_
                                      rotate_left
                                      · intro w'
                                        go_simp
                                        with_reducible rfl
                                      rotate_left
                                      · simp only [Act.put, List.setIfInBounds_toArray, List.set_cons_zero, List.set_cons_succ, i64_w, i32_w]
                                        rfl
                                      refine pure_ (i := 10) (N := some 19) (v := ?_) (a' := ?_) #[true, true, true, true, true, true, true, true, true, true, true, false] rfl rfl (any_of HT_.out (by kernel_rfl)) (fun _ _ _ h => h) (Or.inl ⟨by rfl, ?_⟩) ?_ ?_
                                      rotate_left
                                      · intro w'
                                        go_simp
                                        with_reducible rfl
                                      rotate_left
                                      · simp only [Act.put, List.setIfInBounds_toArray, List.set_cons_zero, List.set_cons_succ, i64_w, i32_w]
                                        rfl
                                      refine pure_ (i := 11) (N := some 20) (v := ?_) (a' := ?_) #[true, true, true, true, true, true, true, true, true, true, true, true] rfl rfl (any_of HT_.out (by kernel_rfl)) (fun _ _ _ h => h) (Or.inl ⟨by rfl, ?_⟩) ?_ ?_
                                      rotate_left
                                      · intro w'
                                        go_simp
                                        with_reducible rfl
                                      rotate_left
                                      · simp only [Act.put, List.setIfInBounds_toArray, List.set_cons_zero, List.set_cons_succ, i64_w, i32_w]
                                        rfl
                                      refine done_ (done_of HT_.out (by kernel_rfl)) ?_
                                      try go_wp2
                                      go_roundg k4
                                      case measure => have := HJ4.out; have := HJ11.out; have := HK3.out; have := HK4.out; omega
                                      case rel => exact ⟨(wrap64 (x93_4 + 1)), (by first | rfl | (simp; done) | (simp [*]; done)), H', ⟨by have := HJ4.out; have := HJ11.out; have := HK3.out; have := HK4.out; omega⟩, ⟨by (with_reducible repeat (first | apply Kd.R_alloc | apply Kd.R_drewN | apply Kd.R_drew)); exact HO_77.out⟩, ⟨by (with_reducible repeat (first | refine blk_drewN ?_ _ | refine blk_drew ?_ | refine blk_alloc ?_ _)); exact BK232.out⟩, ⟨by repeat (first | (with_reducible first | exact HB.out | apply below_alloc | apply pw_below_drewN | apply below_drew1 | refine below_set ?_ GE232.out) | exact HB.out)⟩⟩
                                    · rw [if_neg c35] at H
                                      have c35b0 : (t235 == 0) = false := beq_eq_false_iff_ne.mpr c35
                                      have c35b1 : (t235 != 0) = true := bne_iff_ne.mpr c35
                                      obtain rfl := Option.some.inj H
                                      try go_wp2
                                      have n0_ := Aside0.mk (Kd.R_drew HO_77.out)
                                      have n1_ := Aside0.mk (blk_drew BK232.out)
                                      have n2_ := Aside0.mk (below_drew1 HB.out)
                                      clear HO_77
                                      clear BK232
                                      clear HB
                                      have HO_77 := n0_
                                      have BK232 := n1_
                                      have HB := n2_
                                      clear n0_ n1_ n2_
                                      have p233 : 0 ≤ (x93_4 : Int) := of_decide_eq_true (by first | (with_reducible assumption) | assumption)
                                      have q233 : x93_4 < (l0.length : Int) := of_decide_eq_true (by first | (with_reducible assumption) | assumption)
                                      obtain ⟨ad233, e233, hx233_0, hx233_1⟩ := at_T52 HR0.out x93_4 p233 q233
                                      have hw233_1 := hx233_1
                                      have hw233_0 := hx233_0
                                      cases e233
                                      replace hx233_0 := (HB.out.cell (World.block_lt_of_cell? w _ hx233_0)).trans hx233_0
                                      replace hx233_1 := (HB.out.cell (World.block_lt_of_cell? w _ hx233_1)).trans hx233_1
                                      replace p233 := eq_true p233
                                      replace q233 := eq_true q233
                                      refine start_ (n := 12) (S := fun w' => w'.cell? ⟨gb232, 0, none⟩ = some (.int .i64 ((rd_T52 t225 x79_3).f0)) ∧ w'.cell? ⟨gb232, 1, none⟩ = some (.int .i64 ((rd_T52 t225 x79_3).f1)) ∧ w'.cell? (ad233.add ((x93_4).toNat * 2)) = some (.int .i64 ((rd_T52 l0 x93_4).f0)) ∧ w'.cell? ⟨(ad233.add ((x93_4).toNat * 2)).block, (ad233.add ((x93_4).toNat * 2)).off + 1, none⟩ = some (.int .i64 ((rd_T52 l0 x93_4).f1))) (ds := []) #[false, false, false, false, false, false, false, false, false, false, false, false] (by kernel_rfl) rfl rfl ⟨(blk_cell BK232.out 0).trans rfl, (blk_cell BK232.out 1).trans rfl, ((HB.out.cell (World.block_lt_of_cell? w _ hw233_0)).trans hw233_0), ((HB.out.cell (World.block_lt_of_cell? w _ hw233_1)).trans hw233_1)⟩ (fun hHeld => ?_); refine with_tabW rotalaw13_RingRoom.tab19 rotalaw13_RingRoom.bits19 (fun HT_ HW_ => ?_)
                                      generalize wr.drew = w38 at HO_77 BK232 HB hx233_0 hx233_1 hHeld ⊢
                                      refine pure_ (i := 1) (N := some 98) (v := ?_) (a' := ?_) #[false, true, false, false, false, false, false, false, false, false, false, false] rfl rfl (any_of HT_.out (by kernel_rfl)) (fun _ _ _ h => h) (Or.inl ⟨by rfl, ?_⟩) ?_ ?_
                                      rotate_left
                                      · intro w'
                                        go_simp
                                        with_reducible rfl
                                      rotate_left
                                      · simp only [Act.put, List.setIfInBounds_toArray, List.set_cons_zero, List.set_cons_succ, i64_w, i32_w]
                                        rfl
                                      refine pure_ (i := 2) (N := some 99) (v := ?_) (a' := ?_) #[false, true, true, false, false, false, false, false, false, false, false, false] rfl rfl (any_of HT_.out (by kernel_rfl)) (fun _ _ _ h => h) (Or.inl ⟨by rfl, ?_⟩) ?_ ?_
                                      rotate_left
                                      · intro w'
                                        go_simp
                                        with_reducible rfl
                                      rotate_left
                                      · simp only [Act.put, List.setIfInBounds_toArray, List.set_cons_zero, List.set_cons_succ, i64_w, i32_w]
                                        rfl
                                      refine pure_ (i := 3) (N := some 100) (v := ?_) (a' := ?_) #[false, true, true, true, false, false, false, false, false, false, false, false] rfl rfl (any_of HT_.out (by kernel_rfl)) (fun _ _ _ h => h) (Or.inl ⟨by rfl, ?_⟩) ?_ ?_
                                      rotate_left
                                      · intro w'
                                        go_simp
                                        with_reducible rfl
                                      rotate_left
                                      · simp only [Act.put, List.setIfInBounds_toArray, List.set_cons_zero, List.set_cons_succ, i64_w, i32_w]
                                        rfl
                                      refine pure_ (i := 5) (N := some 102) (v := ?_) (a' := ?_) #[false, true, true, true, false, true, false, false, false, false, false, false] rfl rfl (any_of HT_.out (by kernel_rfl)) (fun _ _ _ h => h) (Or.inl ⟨by rfl, ?_⟩) ?_ ?_
                                      rotate_left
                                      · intro w'
                                        go_simp
                                        with_reducible rfl
                                      rotate_left
                                      · simp only [Act.put, List.setIfInBounds_toArray, List.set_cons_zero, List.set_cons_succ, i64_w, i32_w]
                                        rfl
                                      refine take_ (i := 0) (N := some 97) (v := ?_) (a' := ?_) #[true, true, true, true, false, true, false, false, false, false, false, false] rfl rfl (take_ofW HT_.out HW_.out (by kernel_rfl)) (fun _ _ _ h => h) (Or.inl ⟨by rfl, ?_⟩) hHeld ?_ ?_
                                      rotate_left
                                      · rintro w' ⟨s0, s1, s2, s3⟩
                                        go_simp
                                        with_reducible rfl
                                      rotate_left
                                      · simp only [Act.put, List.setIfInBounds_toArray, List.set_cons_zero, List.set_cons_succ, i64_w, i32_w]
                                        rfl
                                      refine take_ (i := 4) (N := some 101) (v := ?_) (a' := ?_) #[true, true, true, true, true, true, false, false, false, false, false, false] rfl rfl (take_ofW HT_.out HW_.out (by kernel_rfl)) (fun _ _ _ h => h) (Or.inl ⟨by rfl, ?_⟩) hHeld ?_ ?_
                                      rotate_left
                                      · rintro w' ⟨s0, s1, s2, s3⟩
                                        go_simp
                                        with_reducible rfl
                                      rotate_left
                                      · simp only [Act.put, List.setIfInBounds_toArray, List.set_cons_zero, List.set_cons_succ, i64_w, i32_w]
                                        rfl
                                      refine one_ (i := 6) (N := some 103) #[true, true, true, true, true, true, true, false, false, false, false, false] rfl rfl (one_of HT_.out (by kernel_rfl)) (by decide) (fun K hK => ?_)
                                      refine goes_ Try.func29 (by kernel_rfl) rfl #[.agg #[.int .i64 ((rd_T52 t225 x79_3).f0), .int .i64 ((rd_T52 t225 x79_3).f1)], .agg #[.int .i64 ((rd_T52 l0 x93_4).f0), .int .i64 ((rd_T52 l0 x93_4).f1)], .int .i64 (wrap64 (1 + (Int.tmod (wrap64 (a2)) 1000)))] (by rfl) rfl rfl (by (try simp only [List.map_toArray, List.map_cons, List.map_nil]); first | done | rfl | (simp only [List.length_drop, List.length_take]; rfl)) ?_
                                      with_reducible refine (ring_Meet.calls k4 ((rd_T52 t225 x79_3).f0) ((rd_T52 t225 x79_3).f1) ((rd_T52 l0 x93_4).f0) ((rd_T52 l0 x93_4).f1) (wrap64 (1 + (Int.tmod (wrap64 (a2)) 1000))) false t235 _ A31.out).mono ?_
                                      rintro e w39 ⟨rfl, hb⟩
                                      refine ⟨_, rfl, ?_⟩
                                      have n0_ := Aside0.mk (Kd.R_below (by (with_reducible repeat (first | apply Kd.R_alloc | apply Kd.R_drewN | apply Kd.R_drew)); exact HO_77.out) hb)
                                      have n1_ := Aside0.mk (blk_below (g := gb232) (o := .cells #[.int .i64 ((rd_T52 t225 x79_3).f0), .int .i64 ((rd_T52 t225 x79_3).f1)] 52 (0, 0)) (by (with_reducible repeat (first | refine blk_drewN ?_ _ | refine blk_drew ?_ | refine blk_alloc ?_ _)); exact BK232.out) hb)
                                      have n2_ := Aside0.mk (below_step (by repeat (first | (with_reducible first | exact HB.out | apply below_alloc | apply pw_below_drewN | apply below_drew1 | refine below_set ?_ GE232.out) | exact HB.out)) hb)
                                      clear HO_77
                                      clear BK232
                                      clear HB
                                      have HO_77 := n0_
                                      have BK232 := n1_
                                      have HB := n2_
                                      clear n0_ n1_ n2_
                                      (try clear hb)
                                      (try clear hb2)
                                      (try clear hk)
                                      (try clear hi)
                                      refine hK.out _ _ ⟨(blk_cell BK232.out 0).trans rfl, (blk_cell BK232.out 1).trans rfl, ((HB.out.cell (World.block_lt_of_cell? w _ hw233_0)).trans hw233_0), ((HB.out.cell (World.block_lt_of_cell? w _ hw233_1)).trans hw233_1)⟩ (fun hHeld => ?_)
                                      clear hK K
                                      refine norm_ (a' := ?_) ?_ ?_
                                      rotate_left
                                      · show Act.put _ (some 103) _ = _
                                        simp only [Act.put, List.setIfInBounds_toArray, List.set_cons_zero, List.set_cons_succ, i64_w, i32_w]
                                        rfl
                                      refine pure_ (i := 7) (N := some 96) (v := ?_) (a' := ?_) #[true, true, true, true, true, true, true, true, false, false, false, false] rfl rfl (any_of HT_.out (by kernel_rfl)) (fun _ _ _ h => h) (Or.inl ⟨by rfl, ?_⟩) ?_ ?_
                                      rotate_left
                                      · intro w'
                                        go_simp
                                        with_reducible rfl
                                      rotate_left
                                      · simp only [Act.put, List.setIfInBounds_toArray, List.set_cons_zero, List.set_cons_succ, i64_w, i32_w]
                                        rfl
                                      refine pure_ (i := 8) (N := some 104) (v := ?_) (a' := ?_) #[true, true, true, true, true, true, true, true, true, false, false, false] rfl rfl (any_of HT_.out (by kernel_rfl)) (fun _ _ _ h => h) (Or.inl ⟨by rfl, ?_⟩) ?_ ?_
                                      rotate_left
                                      · intro w'
                                        go_simp
                                        with_reducible rfl
                                      rotate_left
                                      · simp only [Act.put, List.setIfInBounds_toArray, List.set_cons_zero, List.set_cons_succ, i64_w, i32_w]
                                        rfl
                                      refine pure_ (i := 9) (N := some 105) (v := ?_) (a' := ?_) #[true, true, true, true, true, true, true, true, true, true, false, false] rfl rfl (any_of HT_.out (by kernel_rfl)) (fun _ _ _ h => h) (Or.inl ⟨by rfl, ?_⟩) ?_ ?_
                                      rotate_left
                                      · intro w'
                                        go_simp
                                        with_reducible rfl
                                      rotate_left
                                      · simp only [Act.put, List.setIfInBounds_toArray, List.set_cons_zero, List.set_cons_succ, i64_w, i32_w]
                                        rfl
                                      refine pure_ (i := 10) (N := some 19) (v := ?_) (a' := ?_) #[true, true, true, true, true, true, true, true, true, true, true, false] rfl rfl (any_of HT_.out (by kernel_rfl)) (fun _ _ _ h => h) (Or.inl ⟨by rfl, ?_⟩) ?_ ?_
                                      rotate_left
                                      · intro w'
                                        go_simp
                                        with_reducible rfl
                                      rotate_left
                                      · simp only [Act.put, List.setIfInBounds_toArray, List.set_cons_zero, List.set_cons_succ, i64_w, i32_w]
                                        rfl
                                      refine pure_ (i := 11) (N := some 20) (v := ?_) (a' := ?_) #[true, true, true, true, true, true, true, true, true, true, true, true] rfl rfl (any_of HT_.out (by kernel_rfl)) (fun _ _ _ h => h) (Or.inl ⟨by rfl, ?_⟩) ?_ ?_
                                      rotate_left
                                      · intro w'
                                        go_simp
                                        with_reducible rfl
                                      rotate_left
                                      · simp only [Act.put, List.setIfInBounds_toArray, List.set_cons_zero, List.set_cons_succ, i64_w, i32_w]
                                        rfl
                                      refine done_ (done_of HT_.out (by kernel_rfl)) ?_
                                      try go_wp2
                                      go_ret
                                      exact ⟨by first | rfl | (simp [errW_none, errW_some] <;> rfl) | (simp only [← hji25]; first | rfl | (simp [errW_none, errW_some] <;> rfl)) | (simp [*, errW_none, errW_some] <;> rfl), by repeat (first | (with_reducible first | exact HB.out | apply below_alloc | apply pw_below_drewN | apply below_drew1 | refine below_set ?_ GE232.out) | exact HB.out)⟩
                                · rw [if_neg c30] at H
                                  exact absurd H (by simp)
                              · rw [if_neg c29] at H
                                exact absurd H (by simp)
                            · rw [if_neg c28] at H
                              have c28b0 : decide (x93_4 < (l0.length : Int)) = false := decide_eq_false c28
                              clear c28
                              have H' := Aside0.mk H
                              clear H
                              go_wp2
                              go_roundg k4
                              case measure => have := HJ4.out; have := HJ11.out; have := HK3.out; have := HK4.out; omega
                              case rel => exact ⟨((wrap64 (x9_3 + ((rd_T52 t225 x79_3).f1)))), (ji25), (wrap64 (x79_3 + 1)), (by first | rfl | (simp; done) | (simp [*]; done)), (by first | rfl | (simp; done) | (simp only [← hji25] <;> (first | rfl | simp)) | (simp [*]; done)), (by first | rfl | (simp; done) | (simp [*]; done)), H', ⟨by have := HJ4.out; have := HJ11.out; have := HK3.out; have := HK4.out; omega⟩, ⟨by (with_reducible repeat (first | apply Kd.R_alloc | apply Kd.R_drewN | apply Kd.R_drew)); exact Kd.R_mono HO_77.out (fun _ hk => trivial)⟩, ⟨by repeat (first | (with_reducible first | exact HB.out | apply below_alloc | apply pw_below_drewN | apply below_drew1 | refine below_set ?_ GE232.out) | exact HB.out)⟩⟩
                      · rw [if_neg c24] at H
                        exact absurd H (by simp)
                    · rw [if_neg c23] at H
                      exact absurd H (by simp)
                  · rw [if_neg c22] at H
                    have c22b0 : decide (x79_3 < (t225.length : Int)) = false := decide_eq_false c22
                    clear c22
                    have HC40 := Aside0.mk H
                    clear H
                    go_upto_region 24 with (fail)
                    go_cut [127] (fun v127 wc => ∃ (kq : Nat) (x127_39 : Bool), v127 = .bool x127_39 ∧ Aside0 (rotalaw13_RingRoom.j4 kq l0 a1 t222 (wrap64 (1 + (Int.tmod (wrap64 (a2)) 1000))) t229 t230 x127_39 = some r) ∧ Aside0 (kq ≤ k3) ∧ Aside0 (Below w.heap.size w wc))
                    case first =>
                      have H := HC40.out
                      clear HC40
                      by_cases c41 : x9_3 = (wrap64 (1 + (Int.tmod (wrap64 (a2)) 1000)))
                      · rw [if_pos c41] at H
                        have c41b0 : (x9_3 == (wrap64 (1 + (Int.tmod (wrap64 (a2)) 1000)))) = true := beq_iff_eq.mpr c41
                        have c41b1 : (x9_3 != (wrap64 (1 + (Int.tmod (wrap64 (a2)) 1000)))) = false := bne_eq_false_iff_eq.mpr c41
                        clear c41
                        (first | rw [c41b0] | (simp only [i64_w, i32_w]; rw [c41b0]) | skip)
                        by_cases c42 : a1 ≥ 1
                        · rw [if_pos c42] at H
                          have c42b0 : decide (1 ≤ a1) = true := decide_eq_true c42
                          clear c42
                          have H' := Aside0.mk H
                          clear H
                          go_wp2
                          go_meet
                          case rel => exact ⟨_, (((t230 == 0) != (decide (a1 ≤ x15_3)))), (by first | rfl | (simp; done) | (simp [*]; done)), H', ⟨by have := HJ4.out; have := HJ11.out; have := HK3.out; first | omega | exact Nat.le_refl _⟩, ⟨by repeat (first | (with_reducible first | exact HB.out | apply below_alloc | apply pw_below_drewN | apply below_drew1) | exact HB.out)⟩⟩
                        · rw [if_neg c42] at H
                          have c42b0 : decide (1 ≤ a1) = false := decide_eq_false c42
                          clear c42
                          have H' := Aside0.mk H
                          clear H
                          go_wp2
                          go_meet
                          case rel => exact ⟨_, (((t230 == 0) != false)), (by first | rfl | (simp; done) | (simp [*]; done)), H', ⟨by have := HJ4.out; have := HJ11.out; have := HK3.out; first | omega | exact Nat.le_refl _⟩, ⟨by repeat (first | (with_reducible first | exact HB.out | apply below_alloc | apply pw_below_drewN | apply below_drew1) | exact HB.out)⟩⟩
                      · rw [if_neg c41] at H
                        have c41b0 : (x9_3 == (wrap64 (1 + (Int.tmod (wrap64 (a2)) 1000)))) = false := beq_eq_false_iff_ne.mpr c41
                        have c41b1 : (x9_3 != (wrap64 (1 + (Int.tmod (wrap64 (a2)) 1000)))) = true := bne_iff_ne.mpr c41
                        (first | rw [c41b0] | (simp only [i64_w, i32_w]; rw [c41b0]) | skip)
                        have H' := Aside0.mk H
                        clear H
                        go_wp2
                        go_meet
                        case rel => exact ⟨_, (true), (by first | rfl | (simp; done) | (simp [*]; done)), H', ⟨by have := HJ4.out; have := HJ11.out; have := HK3.out; first | omega | exact Nat.le_refl _⟩, ⟨by repeat (first | (with_reducible first | exact HB.out | apply below_alloc | apply pw_below_drewN | apply below_drew1) | exact HB.out)⟩⟩
                    case rest =>
                      clear HC40
                      try clear c1
                      try clear c2
                      try clear p2
                      try clear q2
                      try clear hx2
                      try clear c3
                      try clear c4
                      try clear p6
                      try clear c7
                      try clear c7b0
                      try clear c7b1
                      try clear c8
                      try clear c9
                      try clear c16
                      try clear c16b0
                      try clear c16b1
                      try clear c17
                      try clear c18
                      try clear c19
                      try clear c19b0
                      try clear c19b1
                      try clear c20
                      try clear c20b0
                      try clear c20b1
                      try clear c22
                      try clear c22b0
                      try clear c23
                      try clear c23b0
                      try clear p23
                      try clear q23
                      try clear hx23
                      try clear c24
                      try clear c24b0
                      try clear c27
                      try clear c28
                      try clear c28b0
                      try clear c29
                      try clear c29b0
                      try clear c30
                      try clear c30b0
                      try clear c32
                      try clear c35
                      try clear c35b0
                      try clear c35b1
                      try clear c41
                      try clear c41b0
                      try clear c41b1
                      try clear c42
                      try clear c42b0
                      try clear hcz27_0
                      try clear hcz27_1
                      try clear hfz27_0
                      try clear hfz27_1
                      try clear hx231_0
                      try clear hx231_1
                      try clear hx233_0
                      try clear hx233_1
                      try clear p2
                      try clear p23
                      try clear p231
                      try clear p233
                      try clear p6
                      try clear q2
                      try clear q23
                      try clear q231
                      try clear q233
                      obtain ⟨kq, x127_39, rfl, HA, HJ39, HB⟩ := hcut
                      cases kq with
                      | zero => exact absurd HA.out (by simp [rotalaw13_RingRoom.j4])
                      | succ kj39 =>
                        have H := HA.out
                        clear HA
                        simp only [rotalaw13_RingRoom.j4] at H
                        by_cases c43 : x127_39 = true
                        · subst c43
                          have H1 : (some false) = some r := by rw [if_pos rfl] at H; exact H
                          clear H
                          have H := H1
                          clear H1
                          obtain rfl := Option.some.inj H
                          go_wp2
                          go_ret
                          exact ⟨by first | rfl | (simp [errW_none, errW_some] <;> rfl) | (simp [*, errW_none, errW_some] <;> rfl), by repeat (first | (with_reducible first | exact HB.out | apply below_alloc | apply pw_below_drewN | apply below_drew1) | exact HB.out)⟩
                        · replace c43 := Bool.eq_false_iff.mpr c43
                          subst c43
                          have H1 : (if t230 = 0 then (if t229 < 0 then (rotalaw13_RingRoom.j5 kj39 l0 a1 t222 (wrap64 (1 + (Int.tmod (wrap64 (a2)) 1000))) t229 t230 true) else (rotalaw13_RingRoom.j5 kj39 l0 a1 t222 (wrap64 (1 + (Int.tmod (wrap64 (a2)) 1000))) t229 t230 (decide (t229 ≥ (wrap64 (1 + (Int.tmod (wrap64 (a2)) 1000))))))) else (rotalaw13_RingRoom.j5 kj39 l0 a1 t222 (wrap64 (1 + (Int.tmod (wrap64 (a2)) 1000))) t229 t230 false)) = some r := by rw [if_neg (show ¬ (false = true) by decide)] at H; exact H
                          clear H
                          have H := H1
                          clear H1
                          have HC44 := Aside0.mk H
                          clear H
                          go_upto_region 26 with (fail)
                          go_cut [138] (fun v138 wc => ∃ (kq : Nat) (x138_43 : Bool), v138 = .bool x138_43 ∧ Aside0 (rotalaw13_RingRoom.j5 kq l0 a1 t222 (wrap64 (1 + (Int.tmod (wrap64 (a2)) 1000))) t229 t230 x138_43 = some r) ∧ Aside0 (kq ≤ kj39) ∧ Aside0 (Below w.heap.size w wc))
                          case first =>
                            have H := HC44.out
                            clear HC44
                            by_cases c45 : t230 = 0
                            · rw [if_pos c45] at H
                              have c45b0 : (t230 == 0) = true := beq_iff_eq.mpr c45
                              have c45b1 : (t230 != 0) = false := bne_eq_false_iff_eq.mpr c45
                              clear c45
                              (first | rw [c45b0] | (simp only [i64_w, i32_w]; rw [c45b0]) | skip)
                              by_cases c46 : t229 < 0
                              · rw [if_pos c46] at H
                                have c46b0 : decide (t229 < 0) = true := decide_eq_true c46
                                clear c46
                                have H' := Aside0.mk H
                                clear H
                                go_wp2
                                go_meet
                                case rel => exact ⟨_, (true), (by first | rfl | (simp; done) | (simp [*]; done)), H', ⟨by have := HJ4.out; have := HJ11.out; have := HK3.out; have := HJ39.out; first | omega | exact Nat.le_refl _⟩, ⟨by repeat (first | (with_reducible first | exact HB.out | apply below_alloc | apply pw_below_drewN | apply below_drew1) | exact HB.out)⟩⟩
                              · rw [if_neg c46] at H
                                have c46b0 : decide (t229 < 0) = false := decide_eq_false c46
                                clear c46
                                have H' := Aside0.mk H
                                clear H
                                go_wp2
                                go_meet
                                case rel => exact ⟨_, (decide (t229 ≥ (wrap64 (1 + (Int.tmod (wrap64 (a2)) 1000))))), (by first | rfl | (simp; done) | (simp [*]; done)), H', ⟨by have := HJ4.out; have := HJ11.out; have := HK3.out; have := HJ39.out; first | omega | exact Nat.le_refl _⟩, ⟨by repeat (first | (with_reducible first | exact HB.out | apply below_alloc | apply pw_below_drewN | apply below_drew1) | exact HB.out)⟩⟩
                            · rw [if_neg c45] at H
                              have c45b0 : (t230 == 0) = false := beq_eq_false_iff_ne.mpr c45
                              have c45b1 : (t230 != 0) = true := bne_iff_ne.mpr c45
                              (first | rw [c45b0] | (simp only [i64_w, i32_w]; rw [c45b0]) | skip)
                              have H' := Aside0.mk H
                              clear H
                              go_wp2
                              go_meet
                              case rel => exact ⟨_, (false), (by first | rfl | (simp; done) | (simp [*]; done)), H', ⟨by have := HJ4.out; have := HJ11.out; have := HK3.out; have := HJ39.out; first | omega | exact Nat.le_refl _⟩, ⟨by repeat (first | (with_reducible first | exact HB.out | apply below_alloc | apply pw_below_drewN | apply below_drew1) | exact HB.out)⟩⟩
                          case rest =>
                            clear HC44
                            try clear c1
                            try clear c2
                            try clear p2
                            try clear q2
                            try clear hx2
                            try clear c3
                            try clear c4
                            try clear p6
                            try clear c7
                            try clear c7b0
                            try clear c7b1
                            try clear c8
                            try clear c9
                            try clear c16
                            try clear c16b0
                            try clear c16b1
                            try clear c17
                            try clear c18
                            try clear c19
                            try clear c19b0
                            try clear c19b1
                            try clear c20
                            try clear c20b0
                            try clear c20b1
                            try clear c22
                            try clear c22b0
                            try clear c23
                            try clear c23b0
                            try clear p23
                            try clear q23
                            try clear hx23
                            try clear c24
                            try clear c24b0
                            try clear c27
                            try clear c28
                            try clear c28b0
                            try clear c29
                            try clear c29b0
                            try clear c30
                            try clear c30b0
                            try clear c32
                            try clear c35
                            try clear c35b0
                            try clear c35b1
                            try clear c41
                            try clear c41b0
                            try clear c41b1
                            try clear c42
                            try clear c42b0
                            try clear c43
                            try clear c45
                            try clear c45b0
                            try clear c45b1
                            try clear c46
                            try clear c46b0
                            try clear hcz27_0
                            try clear hcz27_1
                            try clear hfz27_0
                            try clear hfz27_1
                            try clear hx231_0
                            try clear hx231_1
                            try clear hx233_0
                            try clear hx233_1
                            try clear p2
                            try clear p23
                            try clear p231
                            try clear p233
                            try clear p6
                            try clear q2
                            try clear q23
                            try clear q231
                            try clear q233
                            obtain ⟨kq, x138_43, rfl, HA, HJ43, HB⟩ := hcut
                            cases kq with
                            | zero => exact absurd HA.out (by simp [rotalaw13_RingRoom.j5])
                            | succ kj43 =>
                              have H := HA.out
                              clear HA
                              simp only [rotalaw13_RingRoom.j5] at H
                              by_cases c47 : x138_43 = true
                              · subst c47
                                have H1 : (some false) = some r := by rw [if_pos rfl] at H; exact H
                                clear H
                                have H := H1
                                clear H1
                                obtain rfl := Option.some.inj H
                                go_wp2
                                go_ret
                                exact ⟨by first | rfl | (simp [errW_none, errW_some] <;> rfl) | (simp [*, errW_none, errW_some] <;> rfl), by repeat (first | (with_reducible first | exact HB.out | apply below_alloc | apply pw_below_drewN | apply below_drew1) | exact HB.out)⟩
                              · replace c47 := Bool.eq_false_iff.mpr c47
                                subst c47
                                have H1 : (rotalaw13_RingRoom.l2 kj43 l0 a1 t222 (wrap64 (1 + (Int.tmod (wrap64 (a2)) 1000))) t229 t230 0) = some r := by rw [if_neg (show ¬ (false = true) by decide)] at H; exact H
                                clear H
                                have H := H1
                                clear H1
                                have H' := Aside0.mk H
                                clear H
                                go_wp2
                                go_loopg [21] kj43 (fun kq v21 w' => ∃ (x21_6 : Int), v21 = .int .i64 x21_6 ∧ Aside0 (rotalaw13_RingRoom.l2 kq l0 a1 t222 (wrap64 (1 + (Int.tmod (wrap64 (a2)) 1000))) t229 t230 x21_6 = some r) ∧ Aside0 (kq ≤ kj43) ∧ Aside0 (Below w.heap.size w w'))
                                case atStart => exact ⟨(0), (by first | rfl | (simp; done) | (simp [*]; done)), H', ⟨Nat.le_refl _⟩, ⟨by repeat (first | (with_reducible first | exact HB.out | apply below_alloc | apply pw_below_drewN | apply below_drew1) | exact HB.out)⟩⟩
                                case round =>
                                  clear H'
                                  try clear c1
                                  try clear c2
                                  try clear p2
                                  try clear q2
                                  try clear hx2
                                  try clear c3
                                  try clear c4
                                  try clear p6
                                  try clear c7
                                  try clear c7b0
                                  try clear c7b1
                                  try clear c8
                                  try clear c9
                                  try clear c16
                                  try clear c16b0
                                  try clear c16b1
                                  try clear c17
                                  try clear c18
                                  try clear c19
                                  try clear c19b0
                                  try clear c19b1
                                  try clear c20
                                  try clear c20b0
                                  try clear c20b1
                                  try clear c22
                                  try clear c22b0
                                  try clear c23
                                  try clear c23b0
                                  try clear p23
                                  try clear q23
                                  try clear hx23
                                  try clear c24
                                  try clear c24b0
                                  try clear c27
                                  try clear c28
                                  try clear c28b0
                                  try clear c29
                                  try clear c29b0
                                  try clear c30
                                  try clear c30b0
                                  try clear c32
                                  try clear c35
                                  try clear c35b0
                                  try clear c35b1
                                  try clear c41
                                  try clear c41b0
                                  try clear c41b1
                                  try clear c42
                                  try clear c42b0
                                  try clear c43
                                  try clear c45
                                  try clear c45b0
                                  try clear c45b1
                                  try clear c46
                                  try clear c46b0
                                  try clear c47
                                  try clear hcz27_0
                                  try clear hcz27_1
                                  try clear hfz27_0
                                  try clear hfz27_1
                                  try clear hx231_0
                                  try clear hx231_1
                                  try clear hx233_0
                                  try clear hx233_1
                                  try clear p2
                                  try clear p23
                                  try clear p231
                                  try clear p233
                                  try clear p6
                                  try clear q2
                                  try clear q23
                                  try clear q231
                                  try clear q233
                                  obtain ⟨x21_6, rfl, HA, HK6, HB⟩ := hrel
                                  cases gk with
                                  | zero => exact absurd HA.out (by simp [rotalaw13_RingRoom.l2])
                                  | succ k6 =>
                                    have H := HA.out
                                    clear HA
                                    simp only [rotalaw13_RingRoom.l2] at H
                                    have HC48 := Aside0.mk H
                                    clear H
                                    go_upto_region 29 with (fail)
                                    go_cut [145] (fun v145 wc => ∃ (kq : Nat) (x145_47 : Bool), v145 = .bool x145_47 ∧ Aside0 (rotalaw13_RingRoom.j7 kq l0 a1 t222 (wrap64 (1 + (Int.tmod (wrap64 (a2)) 1000))) t229 t230 x21_6 x145_47 = some r) ∧ Aside0 (kq ≤ k6) ∧ Aside0 (Below w.heap.size w wc))
                                    case first =>
                                      have H := HC48.out
                                      clear HC48
                                      by_cases c49 : x21_6 ≤ t229
                                      · rw [if_pos c49] at H
                                        have c49b0 : decide (x21_6 ≤ t229) = true := decide_eq_true c49
                                        clear c49
                                        (first | rw [c49b0] | (simp only [i64_w, i32_w]; rw [c49b0]) | skip)
                                        have H' := Aside0.mk H
                                        clear H
                                        go_wp2
                                        go_meet
                                        case rel => exact ⟨_, ((t230 == 0)), (by first | rfl | (simp; done) | (simp [*]; done)), H', ⟨by have := HJ4.out; have := HJ11.out; have := HK3.out; have := HJ39.out; have := HJ43.out; have := HK6.out; first | omega | exact Nat.le_refl _⟩, ⟨by repeat (first | (with_reducible first | exact HB.out | apply below_alloc | apply pw_below_drewN | apply below_drew1) | exact HB.out)⟩⟩
                                      · rw [if_neg c49] at H
                                        have c49b0 : decide (x21_6 ≤ t229) = false := decide_eq_false c49
                                        clear c49
                                        (first | rw [c49b0] | (simp only [i64_w, i32_w]; rw [c49b0]) | skip)
                                        have H' := Aside0.mk H
                                        clear H
                                        go_wp2
                                        go_meet
                                        case rel => exact ⟨_, (false), (by first | rfl | (simp; done) | (simp [*]; done)), H', ⟨by have := HJ4.out; have := HJ11.out; have := HK3.out; have := HJ39.out; have := HJ43.out; have := HK6.out; first | omega | exact Nat.le_refl _⟩, ⟨by repeat (first | (with_reducible first | exact HB.out | apply below_alloc | apply pw_below_drewN | apply below_drew1) | exact HB.out)⟩⟩
                                    case rest =>
                                      clear HC48
                                      try clear c1
                                      try clear c2
                                      try clear p2
                                      try clear q2
                                      try clear hx2
                                      try clear c3
                                      try clear c4
                                      try clear p6
                                      try clear c7
                                      try clear c7b0
                                      try clear c7b1
                                      try clear c8
                                      try clear c9
                                      try clear c16
                                      try clear c16b0
                                      try clear c16b1
                                      try clear c17
                                      try clear c18
                                      try clear c19
                                      try clear c19b0
                                      try clear c19b1
                                      try clear c20
                                      try clear c20b0
                                      try clear c20b1
                                      try clear c22
                                      try clear c22b0
                                      try clear c23
                                      try clear c23b0
                                      try clear p23
                                      try clear q23
                                      try clear hx23
                                      try clear c24
                                      try clear c24b0
                                      try clear c27
                                      try clear c28
                                      try clear c28b0
                                      try clear c29
                                      try clear c29b0
                                      try clear c30
                                      try clear c30b0
                                      try clear c32
                                      try clear c35
                                      try clear c35b0
                                      try clear c35b1
                                      try clear c41
                                      try clear c41b0
                                      try clear c41b1
                                      try clear c42
                                      try clear c42b0
                                      try clear c43
                                      try clear c45
                                      try clear c45b0
                                      try clear c45b1
                                      try clear c46
                                      try clear c46b0
                                      try clear c47
                                      try clear c49
                                      try clear c49b0
                                      try clear hcz27_0
                                      try clear hcz27_1
                                      try clear hfz27_0
                                      try clear hfz27_1
                                      try clear hx231_0
                                      try clear hx231_1
                                      try clear hx233_0
                                      try clear hx233_1
                                      try clear p2
                                      try clear p23
                                      try clear p231
                                      try clear p233
                                      try clear p6
                                      try clear q2
                                      try clear q23
                                      try clear q231
                                      try clear q233
                                      obtain ⟨kq, x145_47, rfl, HA, HJ47, HB⟩ := hcut
                                      cases kq with
                                      | zero => exact absurd HA.out (by simp [rotalaw13_RingRoom.j7])
                                      | succ kj47 =>
                                        have H := HA.out
                                        clear HA
                                        simp only [rotalaw13_RingRoom.j7] at H
                                        by_cases c50 : x145_47 = true
                                        · subst c50
                                          have H1 : (rotalaw13_RingRoom.l3 kj47 l0 a1 t222 (wrap64 (1 + (Int.tmod (wrap64 (a2)) 1000))) t229 t230 x21_6 true (l0.length : Int) 0) = some r := by rw [if_pos rfl] at H; exact H
                                          clear H
                                          have H := H1
                                          clear H1
                                          have H' := Aside0.mk H
                                          clear H
                                          go_wp2
                                          go_loopg [22, 150] kj47 (fun kq v22 v150 w' => ∃ (x22_8 : Bool) (x150_8 : Int), v22 = .bool x22_8 ∧ v150 = .int .i64 x150_8 ∧ Aside0 (rotalaw13_RingRoom.l3 kq l0 a1 t222 (wrap64 (1 + (Int.tmod (wrap64 (a2)) 1000))) t229 t230 x21_6 x22_8 (l0.length : Int) x150_8 = some r) ∧ Aside0 (kq ≤ kj47) ∧ Aside0 (Below w.heap.size w w'))
                                          case atStart => exact ⟨(true), (0), (by first | rfl | (simp; done) | (simp [*]; done)), (by first | rfl | (simp; done) | (simp [*]; done)), H', ⟨Nat.le_refl _⟩, ⟨by repeat (first | (with_reducible first | exact HB.out | apply below_alloc | apply pw_below_drewN | apply below_drew1) | exact HB.out)⟩⟩
                                          case round =>
                                            clear H'
                                            try clear c1
                                            try clear c2
                                            try clear p2
                                            try clear q2
                                            try clear hx2
                                            try clear c3
                                            try clear c4
                                            try clear c5
                                            try clear p6
                                            try clear c7
                                            try clear c7b0
                                            try clear c7b1
                                            try clear c8
                                            try clear c9
                                            try clear c16
                                            try clear c16b0
                                            try clear c16b1
                                            try clear c17
                                            try clear c18
                                            try clear c19
                                            try clear c19b0
                                            try clear c19b1
                                            try clear c20
                                            try clear c20b0
                                            try clear c20b1
                                            try clear c22
                                            try clear c22b0
                                            try clear c23
                                            try clear c23b0
                                            try clear p23
                                            try clear q23
                                            try clear hx23
                                            try clear c24
                                            try clear c24b0
                                            try clear c27
                                            try clear c28
                                            try clear c28b0
                                            try clear c29
                                            try clear c29b0
                                            try clear c30
                                            try clear c30b0
                                            try clear c32
                                            try clear c35
                                            try clear c35b0
                                            try clear c35b1
                                            try clear c41
                                            try clear c41b0
                                            try clear c41b1
                                            try clear c42
                                            try clear c42b0
                                            try clear c43
                                            try clear c45
                                            try clear c45b0
                                            try clear c45b1
                                            try clear c46
                                            try clear c46b0
                                            try clear c47
                                            try clear c49
                                            try clear c49b0
                                            try clear c50
                                            try clear hcz27_0
                                            try clear hcz27_1
                                            try clear hfz27_0
                                            try clear hfz27_1
                                            try clear hx231_0
                                            try clear hx231_1
                                            try clear hx233_0
                                            try clear hx233_1
                                            try clear p2
                                            try clear p23
                                            try clear p231
                                            try clear p233
                                            try clear p6
                                            try clear q2
                                            try clear q23
                                            try clear q231
                                            try clear q233
                                            obtain ⟨x22_8, x150_8, rfl, rfl, HA, HK8, HB⟩ := hrel
                                            cases gk with
                                            | zero => exact absurd HA.out (by simp [rotalaw13_RingRoom.l3])
                                            | succ k8 =>
                                              have H := HA.out
                                              clear HA
                                              simp only [rotalaw13_RingRoom.l3] at H
                                              by_cases c51 : x150_8 < (l0.length : Int)
                                              · rw [if_pos c51] at H
                                                have c51b0 : decide (x150_8 < (l0.length : Int)) = true := decide_eq_true c51
                                                clear c51
                                                by_cases c52 : 0 ≤ x150_8
                                                · rw [if_pos c52] at H
                                                  have c52b0 : decide (0 ≤ x150_8) = true := decide_eq_true c52
                                                  clear c52
                                                  by_cases c53 : x150_8 < (l0.length : Int)
                                                  · rw [if_pos c53] at H
                                                    have c53b0 : decide (x150_8 < (l0.length : Int)) = true := decide_eq_true c53
                                                    clear c53
                                                    replace H := Option.bind_eq_some_iff.mp H
                                                    obtain ⟨⟨t237, t238⟩, A540, H⟩ := H
                                                    replace H : (if t238 = 0 then (if x22_8 = true then (rotalaw13_RingRoom.l3 k8 l0 a1 t222 (wrap64 (1 + (Int.tmod (wrap64 (a2)) 1000))) t229 t230 x21_6 (!t237) (l0.length : Int) (wrap64 (x150_8 + 1))) else (rotalaw13_RingRoom.l3 k8 l0 a1 t222 (wrap64 (1 + (Int.tmod (wrap64 (a2)) 1000))) t229 t230 x21_6 false (l0.length : Int) (wrap64 (x150_8 + 1)))) else (some false)) = some r := H
                                                    have A54 := Aside0.mk A540
                                                    clear A540
                                                    by_cases c55 : t238 = 0
                                                    · rw [if_pos c55] at H
                                                      have c55b0 : (t238 == 0) = true := beq_iff_eq.mpr c55
                                                      have c55b1 : (t238 != 0) = false := bne_eq_false_iff_eq.mpr c55
                                                      clear c55
                                                      by_cases c56 : x22_8 = true
                                                      · subst c56
                                                        have H1 : (rotalaw13_RingRoom.l3 k8 l0 a1 t222 (wrap64 (1 + (Int.tmod (wrap64 (a2)) 1000))) t229 t230 x21_6 (!t237) (l0.length : Int) (wrap64 (x150_8 + 1))) = some r := by rw [if_pos rfl] at H; exact H
                                                        clear H
                                                        have H := H1
                                                        clear H1
                                                        have H' := Aside0.mk H
                                                        clear H
                                                        have p236 : 0 ≤ (x150_8 : Int) := of_decide_eq_true (by first | (with_reducible assumption) | assumption)
                                                        have q236 : x150_8 < (l0.length : Int) := of_decide_eq_true (by first | (with_reducible assumption) | assumption)
                                                        obtain ⟨ad236, e236, hx236_0, hx236_1⟩ := at_T52 HR0.out x150_8 p236 q236
                                                        cases e236
                                                        replace hx236_0 := (HB.out.cell (World.block_lt_of_cell? w _ hx236_0)).trans hx236_0
                                                        replace hx236_1 := (HB.out.cell (World.block_lt_of_cell? w _ hx236_1)).trans hx236_1
                                                        replace p236 := eq_true p236
                                                        replace q236 := eq_true q236
                                                        go_wp2_with (first | ((with_reducible refine gate_callee (f := 29) rfl ?_); refine goesL_ (some 162) rfl rfl Try.func29 (by kernel_rfl) rfl #[.agg #[.int .i64 x21_6, .int .i64 a1], .agg #[.int .i64 ((rd_T52 l0 x150_8).f0), .int .i64 ((rd_T52 l0 x150_8).f1)], .int .i64 (wrap64 (1 + (Int.tmod (wrap64 (a2)) 1000)))] rfl (by (try simp only [List.map_toArray, List.map_cons, List.map_nil]); first | done | rfl | (simp only [List.length_drop, List.length_take]; rfl)) ?_; (with_reducible refine (ring_Meet.calls k8 x21_6 a1 ((rd_T52 l0 x150_8).f0) ((rd_T52 l0 x150_8).f1) (wrap64 (1 + (Int.tmod (wrap64 (a2)) 1000))) t237 t238 _ A54.out).mono ?_); rintro e w57 ⟨rfl, hb⟩; refine ⟨_, rfl, ?_⟩; have n0_ := Aside0.mk (below_step (by repeat (first | (with_reducible first | exact HB.out | apply below_alloc | apply pw_below_drewN | apply below_drew1) | exact HB.out)) hb); clear HB; have HB := n0_; clear n0_; (try clear hb); (try clear hb2); (try clear hk); (try clear hi)))
                                                        go_roundg k8
                                                        case measure => have := HJ4.out; have := HJ11.out; have := HK3.out; have := HJ39.out; have := HJ43.out; have := HK6.out; have := HJ47.out; have := HK8.out; omega
                                                        case rel => exact ⟨(!t237), (wrap64 (x150_8 + 1)), (by first | rfl | (simp; done) | (simp [*]; done)), (by first | rfl | (simp; done) | (simp [*]; done)), H', ⟨by have := HJ4.out; have := HJ11.out; have := HK3.out; have := HJ39.out; have := HJ43.out; have := HK6.out; have := HJ47.out; have := HK8.out; omega⟩, ⟨by repeat (first | (with_reducible first | exact HB.out | apply below_alloc | apply pw_below_drewN | apply below_drew1) | exact HB.out)⟩⟩
                                                      · replace c56 := Bool.eq_false_iff.mpr c56
                                                        subst c56
                                                        have H1 : (rotalaw13_RingRoom.l3 k8 l0 a1 t222 (wrap64 (1 + (Int.tmod (wrap64 (a2)) 1000))) t229 t230 x21_6 false (l0.length : Int) (wrap64 (x150_8 + 1))) = some r := by rw [if_neg (show ¬ (false = true) by decide)] at H; exact H
                                                        clear H
                                                        have H := H1
                                                        clear H1
                                                        have H' := Aside0.mk H
                                                        clear H
                                                        have p236 : 0 ≤ (x150_8 : Int) := of_decide_eq_true (by first | (with_reducible assumption) | assumption)
                                                        have q236 : x150_8 < (l0.length : Int) := of_decide_eq_true (by first | (with_reducible assumption) | assumption)
                                                        obtain ⟨ad236, e236, hx236_0, hx236_1⟩ := at_T52 HR0.out x150_8 p236 q236
                                                        cases e236
                                                        replace hx236_0 := (HB.out.cell (World.block_lt_of_cell? w _ hx236_0)).trans hx236_0
                                                        replace hx236_1 := (HB.out.cell (World.block_lt_of_cell? w _ hx236_1)).trans hx236_1
                                                        replace p236 := eq_true p236
                                                        replace q236 := eq_true q236
                                                        go_wp2_with (first | ((with_reducible refine gate_callee (f := 29) rfl ?_); refine goesL_ (some 162) rfl rfl Try.func29 (by kernel_rfl) rfl #[.agg #[.int .i64 x21_6, .int .i64 a1], .agg #[.int .i64 ((rd_T52 l0 x150_8).f0), .int .i64 ((rd_T52 l0 x150_8).f1)], .int .i64 (wrap64 (1 + (Int.tmod (wrap64 (a2)) 1000)))] rfl (by (try simp only [List.map_toArray, List.map_cons, List.map_nil]); first | done | rfl | (simp only [List.length_drop, List.length_take]; rfl)) ?_; (with_reducible refine (ring_Meet.calls k8 x21_6 a1 ((rd_T52 l0 x150_8).f0) ((rd_T52 l0 x150_8).f1) (wrap64 (1 + (Int.tmod (wrap64 (a2)) 1000))) t237 t238 _ A54.out).mono ?_); rintro e w58 ⟨rfl, hb⟩; refine ⟨_, rfl, ?_⟩; have n0_ := Aside0.mk (below_step (by repeat (first | (with_reducible first | exact HB.out | apply below_alloc | apply pw_below_drewN | apply below_drew1) | exact HB.out)) hb); clear HB; have HB := n0_; clear n0_; (try clear hb); (try clear hb2); (try clear hk); (try clear hi)))
                                                        go_roundg k8
                                                        case measure => have := HJ4.out; have := HJ11.out; have := HK3.out; have := HJ39.out; have := HJ43.out; have := HK6.out; have := HJ47.out; have := HK8.out; omega
                                                        case rel => exact ⟨(false), (wrap64 (x150_8 + 1)), (by first | rfl | (simp; done) | (simp [*]; done)), (by first | rfl | (simp; done) | (simp [*]; done)), H', ⟨by have := HJ4.out; have := HJ11.out; have := HK3.out; have := HJ39.out; have := HJ43.out; have := HK6.out; have := HJ47.out; have := HK8.out; omega⟩, ⟨by repeat (first | (with_reducible first | exact HB.out | apply below_alloc | apply pw_below_drewN | apply below_drew1) | exact HB.out)⟩⟩
                                                    · rw [if_neg c55] at H
                                                      have c55b0 : (t238 == 0) = false := beq_eq_false_iff_ne.mpr c55
                                                      have c55b1 : (t238 != 0) = true := bne_iff_ne.mpr c55
                                                      obtain rfl := Option.some.inj H
                                                      have p236 : 0 ≤ (x150_8 : Int) := of_decide_eq_true (by first | (with_reducible assumption) | assumption)
                                                      have q236 : x150_8 < (l0.length : Int) := of_decide_eq_true (by first | (with_reducible assumption) | assumption)
                                                      obtain ⟨ad236, e236, hx236_0, hx236_1⟩ := at_T52 HR0.out x150_8 p236 q236
                                                      cases e236
                                                      replace hx236_0 := (HB.out.cell (World.block_lt_of_cell? w _ hx236_0)).trans hx236_0
                                                      replace hx236_1 := (HB.out.cell (World.block_lt_of_cell? w _ hx236_1)).trans hx236_1
                                                      replace p236 := eq_true p236
                                                      replace q236 := eq_true q236
                                                      go_wp2_with (first | ((with_reducible refine gate_callee (f := 29) rfl ?_); refine goesL_ (some 162) rfl rfl Try.func29 (by kernel_rfl) rfl #[.agg #[.int .i64 x21_6, .int .i64 a1], .agg #[.int .i64 ((rd_T52 l0 x150_8).f0), .int .i64 ((rd_T52 l0 x150_8).f1)], .int .i64 (wrap64 (1 + (Int.tmod (wrap64 (a2)) 1000)))] rfl (by (try simp only [List.map_toArray, List.map_cons, List.map_nil]); first | done | rfl | (simp only [List.length_drop, List.length_take]; rfl)) ?_; (with_reducible refine (ring_Meet.calls k8 x21_6 a1 ((rd_T52 l0 x150_8).f0) ((rd_T52 l0 x150_8).f1) (wrap64 (1 + (Int.tmod (wrap64 (a2)) 1000))) t237 t238 _ A54.out).mono ?_); rintro e w59 ⟨rfl, hb⟩; refine ⟨_, rfl, ?_⟩; have n0_ := Aside0.mk (below_step (by repeat (first | (with_reducible first | exact HB.out | apply below_alloc | apply pw_below_drewN | apply below_drew1) | exact HB.out)) hb); clear HB; have HB := n0_; clear n0_; (try clear hb); (try clear hb2); (try clear hk); (try clear hi)))
                                                      go_ret
                                                      exact ⟨by first | rfl | (simp [errW_none, errW_some] <;> rfl) | (simp [*, errW_none, errW_some] <;> rfl), by repeat (first | (with_reducible first | exact HB.out | apply below_alloc | apply pw_below_drewN | apply below_drew1) | exact HB.out)⟩
                                                  · rw [if_neg c53] at H
                                                    exact absurd H (by simp)
                                                · rw [if_neg c52] at H
                                                  exact absurd H (by simp)
                                              · rw [if_neg c51] at H
                                                have c51b0 : decide (x150_8 < (l0.length : Int)) = false := decide_eq_false c51
                                                clear c51
                                                by_cases c60 : (x22_8 != (x21_6 == t229)) = true
                                                · rw [if_pos c60] at H
                                                  have c60b0 : (x22_8 != (x21_6 == t229)) = true := c60
                                                  (try (have c60b1 : decide (x22_8 = (x21_6 == t229)) = false := by simpa using c60))
                                                  (try (have c60b2 : (x22_8 == (x21_6 == t229)) = false := by simpa using c60))
                                                  (try (have c60b3 : ¬ (x22_8 = (x21_6 == t229)) := by simpa using c60))
                                                  clear c60
                                                  obtain rfl := Option.some.inj H
                                                  go_wp2
                                                  go_ret
                                                  exact ⟨by first | rfl | (simp [errW_none, errW_some] <;> rfl) | (simp [*, errW_none, errW_some] <;> rfl), by repeat (first | (with_reducible first | exact HB.out | apply below_alloc | apply pw_below_drewN | apply below_drew1) | exact HB.out)⟩
                                                · rw [if_neg c60] at H
                                                  have c60b0 : (x22_8 != (x21_6 == t229)) = false := by simpa using c60
                                                  (try (have c60b1 : decide (x22_8 = (x21_6 == t229)) = true := by simpa using c60))
                                                  (try (have c60b2 : (x22_8 == (x21_6 == t229)) = true := by simpa using c60))
                                                  clear c60
                                                  have H' := Aside0.mk H
                                                  clear H
                                                  go_wp2
                                                  go_roundg k8
                                                  case measure => have := HJ4.out; have := HJ11.out; have := HK3.out; have := HJ39.out; have := HJ43.out; have := HK6.out; have := HJ47.out; have := HK8.out; omega
                                                  case rel => exact ⟨(wrap64 (x21_6 + 1)), (by first | rfl | (simp; done) | (simp [*]; done)), H', ⟨by have := HJ4.out; have := HJ11.out; have := HK3.out; have := HJ39.out; have := HJ43.out; have := HK6.out; have := HJ47.out; have := HK8.out; omega⟩, ⟨by repeat (first | (with_reducible first | exact HB.out | apply below_alloc | apply pw_below_drewN | apply below_drew1) | exact HB.out)⟩⟩
                                        · replace c50 := Bool.eq_false_iff.mpr c50
                                          subst c50
                                          have H1 : (some t222) = some r := by rw [if_neg (show ¬ (false = true) by decide)] at H; exact H
                                          clear H
                                          have H := H1
                                          clear H1
                                          obtain rfl := Option.some.inj H
                                          go_wp2
                                          go_ret
                                          exact ⟨by first | rfl | (simp [errW_none, errW_some] <;> rfl) | (simp [*, errW_none, errW_some] <;> rfl), by repeat (first | (with_reducible first | exact HB.out | apply below_alloc | apply pw_below_drewN | apply below_drew1) | exact HB.out)⟩

end Go.Proofs.Ythnpacnmghlkmaa.Qr
