/- The walk of RingFalls: in each stretch as long as the period something falls just once; two that fall together fall together again behind as many as the least multiple of both. -/
import Derived.Test.YthnpacnmghlkmaaNumWalk
import Derived.Test.YthnpacnmghlkmaaRound
namespace Go.Proofs.Ythnpacnmghlkmaa
open Go.RowKit Go.Proofs.Ythnpacnmghlkmaa.Px Go.Proofs.YthnpacnmghlkmaaW.PrintWords Go.Proofs.YthnpacnmghlkmaaW.PrintLast

theorem falls_whole (p o f j : Int) (hp : 1 ≤ p) (hj : 1 ≤ j) (hp2 : p ≤ 1000000) (hjp : j * p ≤ 1000000) (ho : -32768 ≤ o ∧ o ≤ 32767) (hf : -32768 ≤ f ∧ f ≤ 32767) : fallsOf p o f (f + j * p) = (j, 0) := by
  have h1 : 1 * p ≤ j * p := Int.mul_le_mul_of_nonneg_right hj (by omega)
  have hr0 := Int.emod_nonneg (o - f) (show p ≠ 0 by omega)
  have hr1 := Int.emod_lt_of_pos (o - f) (show 0 < p by omega)
  unfold fallsOf
  rw [if_neg (by rintro (h | h); omega; exact h ⟨⟨by omega, by omega⟩, ⟨by omega, by omega⟩, ⟨by omega, by omega⟩, by omega, by omega⟩), if_neg (by omega)]
  rw [up_unique _ p j (by omega) (by omega) (by omega)]
theorem lcm_parts (a b : Int) (ha : 1 ≤ a) (hb : 1 ≤ b) (ha2 : a ≤ 1000) (hb2 : b ≤ 1000) : ∃ g c e m : Int, ((Int.gcd a b : Nat) : Int) = g ∧ 1 ≤ g ∧ g ≤ 1000 ∧ 1 ≤ c ∧ 1 ≤ e ∧ a = g * c ∧ b = g * e ∧ m = c * b ∧ m = e * a ∧ g * m = a * b ∧ 1 ≤ m ∧ m ≤ 1000000 ∧ a * b ≤ 1000000 ∧ 1 ≤ a * b ∧ lcmOf a b = (m, 0) := by
  have hg : 0 < Int.gcd a b := Int.gcd_pos_of_ne_zero_left b (by omega)
  obtain ⟨c, hc⟩ := Int.gcd_dvd_left a b
  obtain ⟨e, he⟩ := Int.gcd_dvd_right a b
  have hq : a / (Int.gcd a b : Int) = c := Int.ediv_eq_of_eq_mul_right (by omega) hc
  obtain ⟨f1, f2, f3, f4, f5⟩ := lcm_facts a b ha hb (by omega) (by omega)
  rw [hq] at f2 f3 f4 f5
  generalize hgg : ((Int.gcd a b : Nat) : Int) = g at *
  have he1 : 1 ≤ e := by
    rcases Int.lt_or_le e 1 with h | h
    · have : g * e ≤ g * 0 := Int.mul_le_mul_of_nonneg_left (by omega) (by omega)
      omega
    · exact h
  have hga : g ≤ a := by
    have : g * 1 ≤ g * c := Int.mul_le_mul_of_nonneg_left (by omega) (by omega)
    omega
  have hab : a * b ≤ 1000000 := by
    have h1 : a * b ≤ 1000 * b := Int.mul_le_mul_of_nonneg_right ha2 (by omega)
    omega
  have hab1 : 1 ≤ a * b := by
    have h1 : 1 * b ≤ a * b := Int.mul_le_mul_of_nonneg_right ha (by omega)
    omega
  have hm2 : c * b ≤ a * b := Int.mul_le_mul_of_nonneg_right f3 (by omega)
  have hme : c * b = e * a := by rw [hc, he]; rw [Int.mul_left_comm, Int.mul_left_comm e, Int.mul_comm c e]
  refine ⟨g, c, e, c * b, rfl, by omega, by omega, f2, he1, hc, he, rfl, hme, by rw [← Int.mul_assoc, ← hc], by omega, by omega, hab, hab1, ?_⟩
  unfold lcmOf
  rw [hgg, hq, if_pos ⟨ha, hb, ⟨by omega, by omega⟩, ⟨by omega, by omega⟩, by omega⟩]

set_option maxRecDepth 100000 in
set_option maxHeartbeats 1600000 in
theorem ringFalls_go (w : World) (p q x y a b o f g m e c : Int) (hp : 0 ≤ p ∧ p ≤ 65535) (hq : 0 ≤ q ∧ q ≤ 65535) (hpa : Hid (1 + p % 1000 = a)) (hqb : Hid (1 + q % 1000 = b)) (hx : -32768 ≤ x ∧ x ≤ 32767) (hy : -32768 ≤ y ∧ y ≤ 32767)
    (ha : 1 ≤ a ∧ a ≤ 1000) (hb : 1 ≤ b ∧ b ≤ 1000) (hm : 1 ≤ m ∧ m ≤ 1000000) (hg : 1 ≤ g ∧ g ≤ 1000)
    (k1 : Hid (fallsOf a x y (y + a) = (1, 0))) (k2 : Hid (lcmOf a b = (m, 0))) (k3 : Hid (fallsOf m x y (y + m) = (1, 0))) (k4 : Hid (fallsOf a x y (y + m) = (e, 0))) (k5 : Hid (fallsOf b x y (y + m) = (c, 0))) (k6 : Hid ((if Small a ∧ Small b then ((Int.gcd a b : Nat) : Int) else 0) = g))
    (r1 : m / a = e) (r2 : m / b = c) (r3 : g * m = a * b) (r4 : a % g = 0) (r5 : b % g = 0) (r6 : 1 ≤ a * b ∧ a * b ≤ 1000000) :
    Calls Try.prog 6 #[.int .u16 p, .int .u16 q, .agg #[.int .i16 x, .int .i16 y]] w fun e w' => e = .returned (.bool true) ∧ Below w.heap.size w w' := by
  have hB := (Below.refl w.heap.size w).alloc (Nat.le_refl _) (.cells #[.int .i16 x, .int .i16 y] 47)
  have d0 : (w.alloc (.cells #[.int .i16 x, .int .i16 y] 47)).cell? ⟨w.heap.size, 0, none⟩ = some (.int .i16 x) := by rw [cell_of_row _ _ _ _ _ _ (heap_alloc_new w _)]; rfl
  have d1 : (w.alloc (.cells #[.int .i16 x, .int .i16 y] 47)).cell? ⟨w.heap.size, 1, none⟩ = some (.int .i16 y) := by rw [cell_of_row _ _ _ _ _ _ (heap_alloc_new w _)]; rfl
  have C0 := fun W => Lib.hid (alive_at W)
  have C1 := fun W => Lib.hid (falls_at a x y (y + a) W k1.out)
  have C2 := fun W => Lib.hid (lcm_at a b W k2.out)
  have C3 := fun W => Lib.hid (falls_at m x y (y + m) W k3.out)
  have C4 := fun W => Lib.hid (falls_at a x y (y + m) W k4.out)
  have C5 := fun W => Lib.hid (falls_at b x y (y + m) W k5.out)
  have C6 := fun W => Lib.hid (gcd_at a b W k6.out)
  obtain ⟨p0, p1⟩ := hp
  obtain ⟨q0, q1⟩ := hq
  obtain ⟨x0, x1⟩ := hx
  obtain ⟨y0, y1⟩ := hy
  obtain ⟨a0, a1⟩ := ha
  obtain ⟨b0, b1⟩ := hb
  obtain ⟨m0, m1⟩ := hm
  obtain ⟨g0, g1⟩ := hg
  obtain ⟨ab0, ab1⟩ := r6
  have hpa' := hpa.out
  have hqb' := hqb.out
  have r1' : m.tdiv a = e := by rw [Int.tdiv_eq_ediv_of_nonneg (by omega)]; exact r1
  have r2' : m.tdiv b = c := by rw [Int.tdiv_eq_ediv_of_nonneg (by omega)]; exact r2
  have r4' : a.tmod g = 0 := by rw [Int.tmod_eq_emod_of_nonneg (by omega)]; exact r4
  have r5' : b.tmod g = 0 := by rw [Int.tmod_eq_emod_of_nonneg (by omega)]; exact r5
  have gm0 : 1 ≤ g * m := by omega
  have gm1 : g * m ≤ 1000000 := by omega
  have he01 : 0 ≤ e ∧ e ≤ 1000000 := by have := Int.ediv_nonneg (show 0 ≤ m by omega) (show 0 ≤ a by omega); have := Int.ediv_le_self a (show 0 ≤ m by omega); omega
  have hc01 : 0 ≤ c ∧ c ≤ 1000000 := by have := Int.ediv_nonneg (show 0 ≤ m by omega) (show 0 ≤ b by omega); have := Int.ediv_le_self b (show 0 ≤ m by omega); omega
  obtain ⟨e0, e1⟩ := he01
  obtain ⟨c0, c1⟩ := hc01
  have me0 : 0 ≤ m / a ∧ m / a ≤ m := ⟨Int.ediv_nonneg (by omega) (by omega), Int.ediv_le_self _ (by omega)⟩
  have mc0 : 0 ≤ m / b ∧ m / b ≤ m := ⟨Int.ediv_nonneg (by omega) (by omega), Int.ediv_le_self _ (by omega)⟩
  have w1 : wrap64 (m / a) = e := by rw [wrap_in _ (by omega) (by omega)]; exact r1
  have w2 : wrap64 (m / b) = c := by rw [wrap_in _ (by omega) (by omega)]; exact r2
  have w3 : wrap64 (g * m) = a * b := by rw [wrap_in _ (by omega) (by omega)]; exact r3
  have w4 : wrap64 (a * b) = a * b := wrap_in _ (by omega) (by omega)
  clear k1 k2 k3 k4 k5 k6 hpa hqb me0 mc0
  have RR := Lib.hid (show (m / a = e ∧ m / b = c ∧ a % g = 0 ∧ b % g = 0 ∧ m.tdiv a = e ∧ m.tdiv b = c ∧ a.tmod g = 0 ∧ b.tmod g = 0 ∧ wrap64 (m / a) = e ∧ wrap64 (m / b) = c) from ⟨r1, r2, r4, r5, r1', r2', r4', r5', w1, w2⟩)
  have RG := Lib.hid (show (g * m = a * b ∧ wrap64 (g * m) = a * b ∧ wrap64 (a * b) = a * b) from ⟨r3, w3, w4⟩)
  clear r1 r2 r4 r5 r1' r2' r4' r5' w1 w2 r3 w3 w4 gm0 gm1 ab0 ab1
  go_enter Try.func6, Try.ntmps6
  go_wp2_with fail
  refine (C0 _).out.mono ?_
  rintro _ W0 ⟨rfl, hb⟩
  replace d0 := kept hb d0
  replace d1 := kept hb d1
  replace hB := below_step hB hb
  clear hb
  go_wp2_with fail
  go_quiet (fail)
  replace hB := pw_below_drewN hB nq
  generalize W0.drewN nq = W1 at hB ⊢
  clear d0 d1
  go_wp2_with fail
  refine (C1 _).out.mono ?_
  rintro _ W2 ⟨rfl, hb⟩
  replace hB := below_step hB hb
  clear hb
  go_wp2_with fail
  refine (C2 _).out.mono ?_
  rintro _ W3 ⟨rfl, hb⟩
  replace hB := below_step hB hb
  clear hb
  go_wp2_with fail
  refine (C3 _).out.mono ?_
  rintro _ W4 ⟨rfl, hb⟩
  replace hB := below_step hB hb
  clear hb
  go_wp2_with fail
  refine (C4 _).out.mono ?_
  rintro _ W5 ⟨rfl, hb⟩
  replace hB := below_step hB hb
  clear hb
  go_wp2_with fail
  refine (C5 _).out.mono ?_
  rintro _ W6 ⟨rfl, hb⟩
  replace hB := below_step hB hb
  clear hb
  go_wp2_with fail
  refine (C6 _).out.mono ?_
  rintro _ W7 ⟨rfl, hb⟩
  replace hB := below_step hB hb
  clear hb
  obtain ⟨r1, r2, r4, r5, r1', r2', r4', r5', w1, w2⟩ := RR.out
  obtain ⟨r3, w3, w4⟩ := RG.out
  clear RR RG hpa' hqb' w1 w2
  go_wp2
  go_ret
  exact ⟨rfl, hB⟩

theorem ringFalls_walk (w : World) (p : Int) (wp : (Lit.int .u16 p).wf = true) (q : Int) (wq : (Lit.int .u16 q).wf = true) (x : Int) (wx : (Lit.int .i16 x).wf = true) (y : Int) (wy : (Lit.int .i16 y).wf = true) :
    Calls Try.prog 6 #[.int .u16 p, .int .u16 q, .agg #[.int .i16 x, .int .i16 y]] w fun e w' => e = .returned (.bool true) ∧ Below w.heap.size w w' := by
  have bp := bounds_u16 wp
  have bq := bounds_u16 wq
  have bx := bounds_i16 wx
  have bY := bounds_i16 wy
  obtain ⟨a, ha⟩ : ∃ a, 1 + p % 1000 = a := ⟨_, rfl⟩
  obtain ⟨b, hb⟩ : ∃ b, 1 + q % 1000 = b := ⟨_, rfl⟩
  have a1 : 1 ≤ a ∧ a ≤ 1000 := by omega
  have b1 : 1 ≤ b ∧ b ≤ 1000 := by omega
  obtain ⟨g, c, e, m, hg, g0, g1, c0, e0, hac, hbe, hmc, hme, hgm, m0, m1, ab1, ab0, hl⟩ := lcm_parts a b a1.1 b1.1 a1.2 b1.2
  have f1 := falls_whole a x y 1 a1.1 (by omega) (by omega) (by omega) bx bY
  have f3 := falls_whole m x y 1 m0 (by omega) (by omega) (by omega) bx bY
  have f4 := falls_whole a x y e a1.1 e0 (by omega) (by omega) bx bY
  have f5 := falls_whole b x y c b1.1 c0 (by omega) (by omega) bx bY
  rw [Int.one_mul] at f1 f3
  rw [← hme] at f4
  rw [← hmc] at f5
  exact ringFalls_go w p q x y a b x y g m e c bp bq (Lib.hid ha) (Lib.hid hb) bx bY a1 b1 ⟨m0, m1⟩ ⟨g0, g1⟩ (Lib.hid f1) (Lib.hid hl) (Lib.hid f3) (Lib.hid f4) (Lib.hid f5)
    (Lib.hid (by rw [if_pos ⟨⟨by omega, by omega⟩, ⟨by omega, by omega⟩⟩, hg]))
    (by rw [hme]; exact Int.mul_ediv_cancel e (by omega)) (by rw [hmc]; exact Int.mul_ediv_cancel c (by omega)) hgm (by rw [hac]; exact Int.mul_emod_right g c) (by rw [hbe]; exact Int.mul_emod_right g e) ⟨ab0, ab1⟩
end Go.Proofs.Ythnpacnmghlkmaa
