/- Functions of the program as Lean functions, each with the proof that the Go code comes to just its answers (written by a program of this session's over the kit's print). -/
import Derived.Test.YthnpacnmghlkmaaPx0
import Derived.Test.YthnpacnmghlkmaaPx3
namespace Go.Proofs.Ythnpacnmghlkmaa.Px
open Go.RowKit Go.Proofs.YthnpacnmghlkmaaW.PrintWords Go.Proofs.YthnpacnmghlkmaaW.PrintLast Go.Proofs.YthnpacnmghlkmaaW.PrintMore
attribute [local go_sem] max2_int min2_int max_two min_two max_three min_three max_four min_four   -- for this text's walks alone
set_option linter.unusedVariables false
set_option linter.unusedSimpArgs false

/-! ### rotaref13_below: function 41 -/
def rotaref13_below.f (a0 : Int) (a1 : Int) : Option (Int) := if a0 = 0 then (none) else (if (Int.tmod a1 a0) > 0 then (some (wrap64 ((wrap64 (Int.tdiv a1 a0)) + 1))) else (some (wrap64 (Int.tdiv a1 a0))))
set_option maxHeartbeats 8000000 in
set_option maxRecDepth 100000 in
theorem rotaref13_below.calls (a0 : Int) (a1 : Int) (r : Int) (w : World) (h : rotaref13_below.f a0 a1 = some r) :
    Calls Try.prog 41 #[.int .i64 a0, .int .i64 a1] w fun e w' => e = .returned (.int .i64 r) ∧ Drawn0 w w' := by
  have H : (if a0 = 0 then (none) else (if (Int.tmod a1 a0) > 0 then (some (wrap64 ((wrap64 (Int.tdiv a1 a0)) + 1))) else (some (wrap64 (Int.tdiv a1 a0))))) = some r := h
  clear h
  by_cases c3 : a0 = 0
  · rw [if_pos c3] at H
    exact absurd H (by simp)
  · rw [if_neg c3] at H
    have c3b0 : (a0 == 0) = false := beq_eq_false_iff_ne.mpr c3
    have c3b1 : (a0 != 0) = true := bne_iff_ne.mpr c3
    by_cases c4 : (Int.tmod a1 a0) > 0
    · rw [if_pos c4] at H
      have c4b0 : decide (0 < (Int.tmod a1 a0)) = true := decide_eq_true c4
      clear c4
      obtain rfl := Option.some.inj H
      go_enter Try.func41, Try.ntmps41
      go_wp2
      go_ret
      exact ⟨by first | rfl | (simp; done) | (simp [*]; done), by repeat (first | exact Drawn0.refl _ | apply Drawn0.step)⟩
    · rw [if_neg c4] at H
      have c4b0 : decide (0 < (Int.tmod a1 a0)) = false := decide_eq_false c4
      clear c4
      obtain rfl := Option.some.inj H
      go_enter Try.func41, Try.ntmps41
      go_wp2
      go_ret
      exact ⟨by first | rfl | (simp; done) | (simp [*]; done), by repeat (first | exact Drawn0.refl _ | apply Drawn0.step)⟩

/-! ### rotaref13_Falls: function 24 -/
def rotaref13_Falls.j0 : Nat → Int → Int → Int → Int → Bool → Option (Int × Int)
  | 0, _, _, _, _, _ => none
  | k + 1, x0, x1, x2, x3, x39 => if x39 = true then (some (0, 2)) else (if x3 ≤ x2 then (some (0, 0)) else ((rotaref13_below.f x0 (wrap64 (x3 - x1))).bind fun t163 => ((rotaref13_below.f x0 (wrap64 (x2 - x1))).bind fun t164 => (some (wrap64 (t163 - t164), 0)))))
def rotaref13_Falls.f (k : Nat) (a0 : Int) (a1 : Int) (a2 : Int) (a3 : Int) : Option (Int × Int) := (rotaref13_small.f a0).bind fun t159 => ((rotaref13_small.f a1).bind fun t160 => ((rotaref13_small.f a2).bind fun t161 => ((rotaref13_small.f a3).bind fun t162 => (if t159 = true then (if t160 = true then (if t161 = true then (if t162 = true then (rotaref13_Falls.j0 k a0 a1 a2 a3 (decide (a0 < 1))) else (rotaref13_Falls.j0 k a0 a1 a2 a3 true)) else (rotaref13_Falls.j0 k a0 a1 a2 a3 true)) else (rotaref13_Falls.j0 k a0 a1 a2 a3 true)) else (rotaref13_Falls.j0 k a0 a1 a2 a3 true)))))
theorem rotaref13_Falls.mono_l : ∀ k, (∀ y0 y1 y2 y3 y4, LeO (rotaref13_Falls.j0 k y0 y1 y2 y3 y4) (rotaref13_Falls.j0 (k + 1) y0 y1 y2 y3 y4))
  | 0 => fun _ _ _ _ _ r h => by simp [rotaref13_Falls.j0] at h
  | k + 1 => by
    have ih0 := rotaref13_Falls.mono_l k
    · intro y0 y1 y2 y3 y4
      unfold rotaref13_Falls.j0
      repeat' first
      | (with_reducible exact ih0 _ _ _ _ _)
      | (with_reducible exact LeO.refl _)
      | (with_reducible exact LeO.none _)
      | (with_reducible refine LeO.ite ?_ ?_)
      | (with_reducible refine LeO.bind ?_ (fun _ => ?_))
      | exact ih0 _ _ _ _ _
      | exact LeO.none _
      | refine LeO.ite ?_ ?_
      | refine LeO.bind ?_ (fun _ => ?_)
theorem rotaref13_Falls.mono : ∀ a0 a1 a2 a3 k, LeO (rotaref13_Falls.f k a0 a1 a2 a3) (rotaref13_Falls.f (k + 1) a0 a1 a2 a3) := by
  intro a0 a1 a2 a3 k
  have ih0 := rotaref13_Falls.mono_l k
  unfold rotaref13_Falls.f
  repeat' first
      | (with_reducible exact ih0 _ _ _ _ _)
      | (with_reducible exact LeO.refl _)
      | (with_reducible exact LeO.none _)
      | (with_reducible refine LeO.ite ?_ ?_)
      | (with_reducible refine LeO.bind ?_ (fun _ => ?_))
      | exact ih0 _ _ _ _ _
      | exact LeO.none _
      | refine LeO.ite ?_ ?_
      | refine LeO.bind ?_ (fun _ => ?_)
set_option maxHeartbeats 8000000 in
set_option maxRecDepth 100000 in
theorem rotaref13_Falls.calls (k : Nat) (a0 : Int) (a1 : Int) (a2 : Int) (a3 : Int) (r1 : Int) (r2 : Int) (w : World) (h : rotaref13_Falls.f k a0 a1 a2 a3 = some (r1, r2)) :
    Calls Try.prog 24 #[.int .i64 a0, .int .i64 a1, .int .i64 a2, .int .i64 a3] w fun e w' => e = .returned (.tuple #[.int .i64 r1, .int .i64 r2]) ∧ Drawn0 w w' := by
  have H : ((rotaref13_small.f a0).bind fun t159 => ((rotaref13_small.f a1).bind fun t160 => ((rotaref13_small.f a2).bind fun t161 => ((rotaref13_small.f a3).bind fun t162 => (if t159 = true then (if t160 = true then (if t161 = true then (if t162 = true then (rotaref13_Falls.j0 k a0 a1 a2 a3 (decide (a0 < 1))) else (rotaref13_Falls.j0 k a0 a1 a2 a3 true)) else (rotaref13_Falls.j0 k a0 a1 a2 a3 true)) else (rotaref13_Falls.j0 k a0 a1 a2 a3 true)) else (rotaref13_Falls.j0 k a0 a1 a2 a3 true)))))) = some (r1, r2) := h
  clear h
  replace H := Option.bind_eq_some_iff.mp H
  obtain ⟨t159, A50, H⟩ := H
  replace H : ((rotaref13_small.f a1).bind fun t160 => ((rotaref13_small.f a2).bind fun t161 => ((rotaref13_small.f a3).bind fun t162 => (if t159 = true then (if t160 = true then (if t161 = true then (if t162 = true then (rotaref13_Falls.j0 k a0 a1 a2 a3 (decide (a0 < 1))) else (rotaref13_Falls.j0 k a0 a1 a2 a3 true)) else (rotaref13_Falls.j0 k a0 a1 a2 a3 true)) else (rotaref13_Falls.j0 k a0 a1 a2 a3 true)) else (rotaref13_Falls.j0 k a0 a1 a2 a3 true))))) = some (r1, r2) := H
  have A5 := Aside0.mk A50
  clear A50
  replace H := Option.bind_eq_some_iff.mp H
  obtain ⟨t160, A60, H⟩ := H
  replace H : ((rotaref13_small.f a2).bind fun t161 => ((rotaref13_small.f a3).bind fun t162 => (if t159 = true then (if t160 = true then (if t161 = true then (if t162 = true then (rotaref13_Falls.j0 k a0 a1 a2 a3 (decide (a0 < 1))) else (rotaref13_Falls.j0 k a0 a1 a2 a3 true)) else (rotaref13_Falls.j0 k a0 a1 a2 a3 true)) else (rotaref13_Falls.j0 k a0 a1 a2 a3 true)) else (rotaref13_Falls.j0 k a0 a1 a2 a3 true)))) = some (r1, r2) := H
  have A6 := Aside0.mk A60
  clear A60
  replace H := Option.bind_eq_some_iff.mp H
  obtain ⟨t161, A70, H⟩ := H
  replace H : ((rotaref13_small.f a3).bind fun t162 => (if t159 = true then (if t160 = true then (if t161 = true then (if t162 = true then (rotaref13_Falls.j0 k a0 a1 a2 a3 (decide (a0 < 1))) else (rotaref13_Falls.j0 k a0 a1 a2 a3 true)) else (rotaref13_Falls.j0 k a0 a1 a2 a3 true)) else (rotaref13_Falls.j0 k a0 a1 a2 a3 true)) else (rotaref13_Falls.j0 k a0 a1 a2 a3 true))) = some (r1, r2) := H
  have A7 := Aside0.mk A70
  clear A70
  replace H := Option.bind_eq_some_iff.mp H
  obtain ⟨t162, A80, H⟩ := H
  replace H : (if t159 = true then (if t160 = true then (if t161 = true then (if t162 = true then (rotaref13_Falls.j0 k a0 a1 a2 a3 (decide (a0 < 1))) else (rotaref13_Falls.j0 k a0 a1 a2 a3 true)) else (rotaref13_Falls.j0 k a0 a1 a2 a3 true)) else (rotaref13_Falls.j0 k a0 a1 a2 a3 true)) else (rotaref13_Falls.j0 k a0 a1 a2 a3 true)) = some (r1, r2) := H
  have A8 := Aside0.mk A80
  clear A80
  have HC9 := Aside0.mk H
  clear H
  go_enter Try.func24, Try.ntmps24
  go_upto_region 5 with (first | ((with_reducible refine gate_callee (f := 40) rfl ?_); refine goesL_ (some 15) rfl rfl Try.func40 (by kernel_rfl) rfl #[.int .i64 a0] rfl (by (try simp only [List.map_toArray, List.map_cons, List.map_nil]); first | done | rfl | (simp only [List.length_drop, List.length_take]; rfl)) ?_; (with_reducible refine (rotaref13_small.calls a0 t159 _ A5.out).mono ?_); rintro e w' ⟨rfl, ⟨nd, rfl⟩⟩; refine ⟨_, rfl, ?_⟩) | ((with_reducible refine gate_callee (f := 40) rfl ?_); refine goesL_ (some 17) rfl rfl Try.func40 (by kernel_rfl) rfl #[.int .i64 a1] rfl (by (try simp only [List.map_toArray, List.map_cons, List.map_nil]); first | done | rfl | (simp only [List.length_drop, List.length_take]; rfl)) ?_; (with_reducible refine (rotaref13_small.calls a1 t160 _ A6.out).mono ?_); rintro e w' ⟨rfl, ⟨nd, rfl⟩⟩; refine ⟨_, rfl, ?_⟩) | ((with_reducible refine gate_callee (f := 40) rfl ?_); refine goesL_ (some 19) rfl rfl Try.func40 (by kernel_rfl) rfl #[.int .i64 a2] rfl (by (try simp only [List.map_toArray, List.map_cons, List.map_nil]); first | done | rfl | (simp only [List.length_drop, List.length_take]; rfl)) ?_; (with_reducible refine (rotaref13_small.calls a2 t161 _ A7.out).mono ?_); rintro e w' ⟨rfl, ⟨nd, rfl⟩⟩; refine ⟨_, rfl, ?_⟩) | ((with_reducible refine gate_callee (f := 40) rfl ?_); refine goesL_ (some 21) rfl rfl Try.func40 (by kernel_rfl) rfl #[.int .i64 a3] rfl (by (try simp only [List.map_toArray, List.map_cons, List.map_nil]); first | done | rfl | (simp only [List.length_drop, List.length_take]; rfl)) ?_; (with_reducible refine (rotaref13_small.calls a3 t162 _ A8.out).mono ?_); rintro e w' ⟨rfl, ⟨nd, rfl⟩⟩; refine ⟨_, rfl, ?_⟩))
  (try simp only [Act.put, List.setIfInBounds_toArray, List.set_cons_zero, List.set_cons_succ])
  go_cut [39] (fun v39 wc => ∃ (kq : Nat) (x39_8 : Bool), v39 = .bool x39_8 ∧ Aside0 (rotaref13_Falls.j0 kq a0 a1 a2 a3 x39_8 = some (r1, r2)) ∧ Aside0 (kq ≤ k) ∧ Drawn0 w wc)
  case first =>
    have H := HC9.out
    clear HC9
    by_cases c10 : t159 = true
    · subst c10
      have H1 : (if t160 = true then (if t161 = true then (if t162 = true then (rotaref13_Falls.j0 k a0 a1 a2 a3 (decide (a0 < 1))) else (rotaref13_Falls.j0 k a0 a1 a2 a3 true)) else (rotaref13_Falls.j0 k a0 a1 a2 a3 true)) else (rotaref13_Falls.j0 k a0 a1 a2 a3 true)) = some (r1, r2) := by rw [if_pos rfl] at H; exact H
      clear H
      have H := H1
      clear H1
      by_cases c11 : t160 = true
      · subst c11
        have H1 : (if t161 = true then (if t162 = true then (rotaref13_Falls.j0 k a0 a1 a2 a3 (decide (a0 < 1))) else (rotaref13_Falls.j0 k a0 a1 a2 a3 true)) else (rotaref13_Falls.j0 k a0 a1 a2 a3 true)) = some (r1, r2) := by rw [if_pos rfl] at H; exact H
        clear H
        have H := H1
        clear H1
        by_cases c12 : t161 = true
        · subst c12
          have H1 : (if t162 = true then (rotaref13_Falls.j0 k a0 a1 a2 a3 (decide (a0 < 1))) else (rotaref13_Falls.j0 k a0 a1 a2 a3 true)) = some (r1, r2) := by rw [if_pos rfl] at H; exact H
          clear H
          have H := H1
          clear H1
          by_cases c13 : t162 = true
          · subst c13
            have H1 : (rotaref13_Falls.j0 k a0 a1 a2 a3 (decide (a0 < 1))) = some (r1, r2) := by rw [if_pos rfl] at H; exact H
            clear H
            have H := H1
            clear H1
            have H' := Aside0.mk H
            clear H
            go_wp2
            go_meet
            case rel => exact ⟨_, (decide (a0 < 1)), (by first | rfl | (simp; done) | (simp [*]; done)), H', ⟨by first | omega | exact Nat.le_refl _⟩, by repeat (first | exact Drawn0.refl _ | apply Drawn0.step)⟩
          · replace c13 := Bool.eq_false_iff.mpr c13
            subst c13
            have H1 : (rotaref13_Falls.j0 k a0 a1 a2 a3 true) = some (r1, r2) := by rw [if_neg (show ¬ (false = true) by decide)] at H; exact H
            clear H
            have H := H1
            clear H1
            have H' := Aside0.mk H
            clear H
            go_wp2
            go_meet
            case rel => exact ⟨_, (true), (by first | rfl | (simp; done) | (simp [*]; done)), H', ⟨by first | omega | exact Nat.le_refl _⟩, by repeat (first | exact Drawn0.refl _ | apply Drawn0.step)⟩
        · replace c12 := Bool.eq_false_iff.mpr c12
          subst c12
          have H1 : (rotaref13_Falls.j0 k a0 a1 a2 a3 true) = some (r1, r2) := by rw [if_neg (show ¬ (false = true) by decide)] at H; exact H
          clear H
          have H := H1
          clear H1
          have H' := Aside0.mk H
          clear H
          go_wp2
          go_meet
          case rel => exact ⟨_, (true), (by first | rfl | (simp; done) | (simp [*]; done)), H', ⟨by first | omega | exact Nat.le_refl _⟩, by repeat (first | exact Drawn0.refl _ | apply Drawn0.step)⟩
      · replace c11 := Bool.eq_false_iff.mpr c11
        subst c11
        have H1 : (rotaref13_Falls.j0 k a0 a1 a2 a3 true) = some (r1, r2) := by rw [if_neg (show ¬ (false = true) by decide)] at H; exact H
        clear H
        have H := H1
        clear H1
        have H' := Aside0.mk H
        clear H
        go_wp2
        go_meet
        case rel => exact ⟨_, (true), (by first | rfl | (simp; done) | (simp [*]; done)), H', ⟨by first | omega | exact Nat.le_refl _⟩, by repeat (first | exact Drawn0.refl _ | apply Drawn0.step)⟩
    · replace c10 := Bool.eq_false_iff.mpr c10
      subst c10
      have H1 : (rotaref13_Falls.j0 k a0 a1 a2 a3 true) = some (r1, r2) := by rw [if_neg (show ¬ (false = true) by decide)] at H; exact H
      clear H
      have H := H1
      clear H1
      have H' := Aside0.mk H
      clear H
      go_wp2
      go_meet
      case rel => exact ⟨_, (true), (by first | rfl | (simp; done) | (simp [*]; done)), H', ⟨by first | omega | exact Nat.le_refl _⟩, by repeat (first | exact Drawn0.refl _ | apply Drawn0.step)⟩
  case rest =>
    clear HC9
    try clear c1
    try clear c2
    try clear p2
    try clear c4
    try clear c10
    try clear c11
    try clear c12
    try clear c13
    obtain ⟨kq, x39_8, rfl, HA, HJ8, ⟨mc8, rfl⟩⟩ := hcut
    cases kq with
    | zero => exact absurd HA.out (by simp [rotaref13_Falls.j0])
    | succ kj8 =>
      have H := HA.out
      clear HA
      simp only [rotaref13_Falls.j0] at H
      by_cases c14 : x39_8 = true
      · subst c14
        have H1 : (some (0, 2)) = some (r1, r2) := by rw [if_pos rfl] at H; exact H
        clear H
        have H := H1
        clear H1
        simp only [Option.some.injEq, Prod.mk.injEq] at H
        obtain ⟨rfl, rfl⟩ := H
        go_wp2
        go_ret2
        exact ⟨by first | rfl | (simp; done) | (simp [*]; done), by repeat (first | exact Drawn0.refl _ | apply Drawn0.step)⟩
      · replace c14 := Bool.eq_false_iff.mpr c14
        subst c14
        have H1 : (if a3 ≤ a2 then (some (0, 0)) else ((rotaref13_below.f a0 (wrap64 (a3 - a1))).bind fun t163 => ((rotaref13_below.f a0 (wrap64 (a2 - a1))).bind fun t164 => (some (wrap64 (t163 - t164), 0))))) = some (r1, r2) := by rw [if_neg (show ¬ (false = true) by decide)] at H; exact H
        clear H
        have H := H1
        clear H1
        by_cases c15 : a3 ≤ a2
        · rw [if_pos c15] at H
          have c15b0 : decide (a3 ≤ a2) = true := decide_eq_true c15
          clear c15
          simp only [Option.some.injEq, Prod.mk.injEq] at H
          obtain ⟨rfl, rfl⟩ := H
          go_wp2
          go_ret2
          exact ⟨by first | rfl | (simp; done) | (simp [*]; done), by repeat (first | exact Drawn0.refl _ | apply Drawn0.step)⟩
        · rw [if_neg c15] at H
          have c15b0 : decide (a3 ≤ a2) = false := decide_eq_false c15
          clear c15
          replace H := Option.bind_eq_some_iff.mp H
          obtain ⟨t163, A160, H⟩ := H
          replace H : ((rotaref13_below.f a0 (wrap64 (a2 - a1))).bind fun t164 => (some (wrap64 (t163 - t164), 0))) = some (r1, r2) := H
          have A16 := Aside0.mk A160
          clear A160
          replace H := Option.bind_eq_some_iff.mp H
          obtain ⟨t164, A170, H⟩ := H
          replace H : (some (wrap64 (t163 - t164), 0)) = some (r1, r2) := H
          have A17 := Aside0.mk A170
          clear A170
          simp only [Option.some.injEq, Prod.mk.injEq] at H
          obtain ⟨rfl, rfl⟩ := H
          go_wp2_with (first | ((with_reducible refine gate_callee (f := 41) rfl ?_); refine goesL_ (some 47) rfl rfl Try.func41 (by kernel_rfl) rfl #[.int .i64 a0, .int .i64 (wrap64 (a3 - a1))] rfl (by (try simp only [List.map_toArray, List.map_cons, List.map_nil]); first | done | rfl | (simp only [List.length_drop, List.length_take]; rfl)) ?_; (with_reducible refine (rotaref13_below.calls a0 (wrap64 (a3 - a1)) t163 _ A16.out).mono ?_); rintro e w' ⟨rfl, ⟨nd, rfl⟩⟩; refine ⟨_, rfl, ?_⟩) | ((with_reducible refine gate_callee (f := 41) rfl ?_); refine goesL_ (some 52) rfl rfl Try.func41 (by kernel_rfl) rfl #[.int .i64 a0, .int .i64 (wrap64 (a2 - a1))] rfl (by (try simp only [List.map_toArray, List.map_cons, List.map_nil]); first | done | rfl | (simp only [List.length_drop, List.length_take]; rfl)) ?_; (with_reducible refine (rotaref13_below.calls a0 (wrap64 (a2 - a1)) t164 _ A17.out).mono ?_); rintro e w' ⟨rfl, ⟨nd, rfl⟩⟩; refine ⟨_, rfl, ?_⟩))
          go_ret2
          exact ⟨by first | rfl | (simp; done) | (simp [*]; done), by repeat (first | exact Drawn0.refl _ | apply Drawn0.step)⟩

-- NOT PRINTED: function 5 (rotalaw13_RingNumbers)

-- NOT PRINTED: function 6 (rotalaw13_RingFalls)

-- NOT PRINTED: function 43 (ring_places)

-- NOT PRINTED: function 42 (ring_taken)

-- NOT PRINTED: function 27 (ring_Covered)

-- NOT PRINTED: function 28 (ring_Gaps)

end Go.Proofs.Ythnpacnmghlkmaa.Px
