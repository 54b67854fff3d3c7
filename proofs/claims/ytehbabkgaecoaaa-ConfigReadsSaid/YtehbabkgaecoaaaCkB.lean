/- What config's clocks answers. -/
import Derived.Test.YtehbabkgaecoaaaCkA
namespace Go.Proofs.Ytehbabkgaecoaaa
set_option linter.unusedVariables false
set_option linter.unusedSimpArgs false
open Go.RowKit Go.Proofs.YtehbabkgaecoaaaW.PrintWords

theorem below_step {w W W' : World} (h : Below w.heap.size w W) (hb : Below W.heap.size W W') : Below w.heap.size w W' := h.trans (hb.mono h.size)
theorem within_any (n lo hi : Int) (w : World) : ∃ b, b = withinB n lo hi ∧ Calls Try.prog 74 #[.int .i64 n, .int .i64 lo, .int .i64 hi] w fun e w' => e = .returned (.bool b) ∧ w = w' := ⟨_, rfl, within_calls n lo hi w⟩

def leastW (C : S29) : Int := wrap64 (wrap64 (2 * precW C) + C.f3)
def clocksB (C : S29) : Bool := withinB C.f2 0 1048576 && withinB C.f3 0 1048576 && withinB C.f4 (leastW C) 16777216 && withinB C.f5 (leastW C) 16777216 && withinB C.f6 1 8 && withinB C.f7 1 16
set_option maxHeartbeats 2000000 in
theorem clocks_calls (A1 A8 A9 A10 A11 : Option Addr) (c1 c8 c9 c10 c11 : Nat) (C : S29) (w : World) : Calls Try.prog 64 #[.agg #[.int .i64 C.f0, .slice A1 C.f1.length c1, .int .i64 C.f2, .int .i64 C.f3, .int .i64 C.f4, .int .i64 C.f5, .int .i64 C.f6, .int .i64 C.f7, .slice A8 C.f8.length c8, .slice A9 C.f9.length c9, .slice A10 C.f10.length c10, .slice A11 C.f11.length c11]] w fun e w' => e = .returned (.bool (clocksB C)) ∧ Below w.heap.size w w' := by
  obtain ⟨b, hb⟩ : ∃ b, b = clocksB C := ⟨_, rfl⟩
  rw [← hb]
  have HBB := Lib.hid hb
  clear hb
  have hb0 : Below w.heap.size w (w.alloc (Obj.cells #[.int .i64 C.f0, .slice A1 C.f1.length c1, .int .i64 C.f2, .int .i64 C.f3, .int .i64 C.f4, .int .i64 C.f5, .int .i64 C.f6, .int .i64 C.f7, .slice A8 C.f8.length c8, .slice A9 C.f9.length c9, .slice A10 C.f10.length c10, .slice A11 C.f11.length c11] 29)) := (Below.refl _ _).alloc (Nat.le_refl _) _
  have HB0 := Lib.hid hb0
  clear hb0
  go_enter Try.func64, Try.ntmps64
  go_wp2_with fail
  obtain ⟨b1, e1, hc1⟩ := within_any C.f2 0 1048576 (w.alloc (Obj.cells #[.int .i64 C.f0, .slice A1 C.f1.length c1, .int .i64 C.f2, .int .i64 C.f3, .int .i64 C.f4, .int .i64 C.f5, .int .i64 C.f6, .int .i64 C.f7, .slice A8 C.f8.length c8, .slice A9 C.f9.length c9, .slice A10 C.f10.length c10, .slice A11 C.f11.length c11] 29))
  have E1 := Lib.hid e1
  clear e1
  refine hc1.mono ?_
  clear hc1
  rintro e w2 ⟨rfl, rfl⟩
  go_wp2_with fail
  any_goals (go_ret; exact ⟨ret_bool (by rw [HBB.out, clocksB, ← E1.out]; simp_all), HB0.out⟩)
  obtain ⟨b2, e2, hc2⟩ := within_any C.f3 0 1048576 (w.alloc (Obj.cells #[.int .i64 C.f0, .slice A1 C.f1.length c1, .int .i64 C.f2, .int .i64 C.f3, .int .i64 C.f4, .int .i64 C.f5, .int .i64 C.f6, .int .i64 C.f7, .slice A8 C.f8.length c8, .slice A9 C.f9.length c9, .slice A10 C.f10.length c10, .slice A11 C.f11.length c11] 29))
  have E2 := Lib.hid e2
  clear e2
  refine hc2.mono ?_
  clear hc2
  rintro e w2 ⟨rfl, rfl⟩
  go_wp2_with fail
  any_goals (go_ret; exact ⟨ret_bool (by rw [HBB.out, clocksB, ← E2.out]; simp_all), HB0.out⟩)
  obtain ⟨g0, g1, g2, g3, g4, g5, g6, g7, g8, g9, g10, g11⟩ := cfg_cells (blk_new w (o := (Obj.cells #[.int .i64 C.f0, .slice A1 C.f1.length c1, .int .i64 C.f2, .int .i64 C.f3, .int .i64 C.f4, .int .i64 C.f5, .int .i64 C.f6, .int .i64 C.f7, .slice A8 C.f8.length c8, .slice A9 C.f9.length c9, .slice A10 C.f10.length c10, .slice A11 C.f11.length c11] 29)))
  have hB1 := HB0.out.drew
  go_region_held3 (fun w' => w'.cell? ⟨w.heap.size, 0, none⟩ = some (.int .i64 C.f0) ∧ w'.cell? ⟨w.heap.size, 1, none⟩ = some (.slice A1 C.f1.length c1) ∧ w'.cell? ⟨w.heap.size, 2, none⟩ = some (.int .i64 C.f2) ∧ w'.cell? ⟨w.heap.size, 3, none⟩ = some (.int .i64 C.f3) ∧ w'.cell? ⟨w.heap.size, 4, none⟩ = some (.int .i64 C.f4) ∧ w'.cell? ⟨w.heap.size, 5, none⟩ = some (.int .i64 C.f5) ∧ w'.cell? ⟨w.heap.size, 6, none⟩ = some (.int .i64 C.f6) ∧ w'.cell? ⟨w.heap.size, 7, none⟩ = some (.int .i64 C.f7) ∧ w'.cell? ⟨w.heap.size, 8, none⟩ = some (.slice A8 C.f8.length c8) ∧ w'.cell? ⟨w.heap.size, 9, none⟩ = some (.slice A9 C.f9.length c9) ∧ w'.cell? ⟨w.heap.size, 10, none⟩ = some (.slice A10 C.f10.length c10) ∧ w'.cell? ⟨w.heap.size, 11, none⟩ = some (.slice A11 C.f11.length c11) ∧ Below w.heap.size w w') (first | exact ⟨g0, g1, g2, g3, g4, g5, g6, g7, g8, g9, g10, g11, hB1⟩ | exact ⟨k0, k1, k2, k3, k4, k5, k6, k7, k8, k9, k10, k11, kB⟩) (first | (go_at_call 22; refine (prec_calls _ _ _ _ _ _ _ _ _ _ _ _).mono ?_; rintro e w' ⟨rfl, hb⟩; obtain ⟨k0, k1, k2, k3, k4, k5, k6, k7, k8, k9, k10, k11⟩ := cells12_below hb ⟨by assumption, by assumption, by assumption, by assumption, by assumption, by assumption, by assumption, by assumption, by assumption, by assumption, by assumption, by assumption⟩; have kB : Below w.heap.size w w' := below_step (by assumption) hb; clear hb))
  rename_i hS
  have HB := Lib.hid kB
  clear hS kB g0 g1 g2 g3 g4 g5 g6 g7 g8 g9 g10 g11
  go_wp2_with fail
  rw [show wrap64 (wrap64 (2 * precW C) + C.f3) = leastW C from rfl]
  obtain ⟨b3, e3, hc3⟩ := within_any C.f4 (leastW C) 16777216 w'
  have E3 := Lib.hid e3
  clear e3
  refine hc3.mono ?_
  clear hc3
  rintro e w2 ⟨rfl, rfl⟩
  go_wp2_with fail
  any_goals (go_ret; exact ⟨ret_bool (by rw [HBB.out, clocksB, ← E3.out]; simp_all), HB.out⟩)
  obtain ⟨b4, e4, hc4⟩ := within_any C.f5 (leastW C) 16777216 w'
  have E4 := Lib.hid e4
  clear e4
  refine hc4.mono ?_
  clear hc4
  rintro e w2 ⟨rfl, rfl⟩
  go_wp2_with fail
  any_goals (go_ret; exact ⟨ret_bool (by rw [HBB.out, clocksB, ← E4.out]; simp_all), HB.out⟩)
  obtain ⟨b5, e5, hc5⟩ := within_any C.f6 1 8 w'
  have E5 := Lib.hid e5
  clear e5
  refine hc5.mono ?_
  clear hc5
  rintro e w2 ⟨rfl, rfl⟩
  go_wp2_with fail
  any_goals (go_ret; exact ⟨ret_bool (by rw [HBB.out, clocksB, ← E5.out]; simp_all), HB.out⟩)
  obtain ⟨b6, e6, hc6⟩ := within_any C.f7 1 16 w'
  have E6 := Lib.hid e6
  clear e6
  refine hc6.mono ?_
  clear hc6
  rintro e w2 ⟨rfl, rfl⟩
  go_wp2
  go_ret
  exact ⟨ret_bool (by rw [HBB.out, clocksB, ← E1.out, ← E2.out, ← E3.out, ← E4.out, ← E5.out, ← E6.out]; simp_all), HB.out⟩
end Go.Proofs.Ytehbabkgaecoaaa
