/- What the document's count, nodes, clock, meet, parts, windows, Alone, ports answer: what config's own do. -/
import Derived.Test.YtehbabkgaecoaaaCkP
import Derived.Test.YtehbabkgaecoaaaCkH
import Derived.Test.YtehbabkgaecoaaaRegE
namespace Go.Proofs.Ytehbabkgaecoaaa
set_option linter.unusedVariables false
set_option linter.unusedSimpArgs false
open Go.RowKit Go.Shelf Go.Proofs.YtehbabkgaecoaaaW.PrintWords Go.Proofs.YtehbabkgaecoaaaW.PrintLast

theorem count_snoc {l : List Int} {k : Nat} {x v : Int} (h : l[k]? = some v) : (l.take (k + 1)).count x = (l.take k).count x + if v = x then 1 else 0 := by
  rw [List.take_add_one, h, List.count_append]
  simp [List.count_cons]
theorem count_calls (A : Option Addr) (c : Nat) (l : List Int) (x : Int) (w : World) (hr : Kd.C kI w A l.length l) : Calls Try.prog 69 #[.slice A l.length c, .int .i64 x] w fun e w' => e = .returned (.int .i64 (l.count x : Nat)) ∧ w = w' := by
  have hl := hr.2.1
  have HR := Lib.hid hr
  clear hr
  go_enter Try.func69, Try.ntmps69
  go_wp2
  go_loop [5, 6] (fun v0 i => ∃ k n : Nat, k ≤ l.length ∧ n ≤ k ∧ i = .int .i64 k ∧ v0 = .int .i64 n ∧ Hid (n = (l.take k).count x)) (fun _ i => l.length - (intOf i).toNat)
  case atStart => exact ⟨0, 0, by omega, by omega, rfl, rfl, Lib.hid (by simp)⟩
  case round =>
    obtain ⟨k, n, hk, hn, rfl, rfl, HN⟩ := hrel
    by_cases hlt : k < l.length
    · obtain ⟨ad, v, rfl, hc, HV⟩ := at_I HR.out k hlt
      by_cases hx : v = x
      · have e1 : (v == x) = true := by simpa using hx
        have HS := Lib.hid (show n + 1 = (l.take (k + 1)).count x by rw [count_snoc HV.out, if_pos hx, ← HN.out])
        clear hx
        go_wp2
        go_round
        case rel => exact ⟨k + 1, n + 1, by omega, by omega, by go_num, by go_num, HS⟩
        case measure => simp [intOf]; omega
      · have e1 : (v == x) = false := by simpa using hx
        have HS := Lib.hid (show n = (l.take (k + 1)).count x by rw [count_snoc HV.out, if_neg hx, ← HN.out]; rfl)
        clear hx
        go_wp2
        go_round
        case rel => exact ⟨k + 1, n, by omega, by omega, by go_num, rfl, HS⟩
        case measure => simp [intOf]; omega
    · have hres := Lib.hid (show n = l.count x by have := HN.out; rwa [List.take_of_length_le (by omega)] at this)
      go_wp2
      go_ret
      exact ⟨ret_int (by rw [hres.out]), rfl⟩
set_option maxHeartbeats 2000000 in
theorem rnodes_calls (A1 A8 A9 A10 A11 : Option Addr) (c1 c8 c9 c10 c11 : Nat) (C : S29) (w : World) (h : CfgIn w C A1 A8 A9 A10 A11 c1 c8 c9 c10 c11) : Calls Try.prog 50 #[.agg #[.int .i64 C.f0, .slice A1 C.f1.length c1, .int .i64 C.f2, .int .i64 C.f3, .int .i64 C.f4, .int .i64 C.f5, .int .i64 C.f6, .int .i64 C.f7, .slice A8 C.f8.length c8, .slice A9 C.f9.length c9, .slice A10 C.f10.length c10, .slice A11 C.f11.length c11]] w fun e w' => e = .returned (.bool (nodesB C)) ∧ Below w.heap.size w w' := by
  have hb : Below w.heap.size w (w.alloc (Obj.cells #[.int .i64 C.f0, .slice A1 C.f1.length c1, .int .i64 C.f2, .int .i64 C.f3, .int .i64 C.f4, .int .i64 C.f5, .int .i64 C.f6, .int .i64 C.f7, .slice A8 C.f8.length c8, .slice A9 C.f9.length c9, .slice A10 C.f10.length c10, .slice A11 C.f11.length c11] 29)) := (Below.refl _ _).alloc (Nat.le_refl _) _
  have HB := Lib.hid hb
  have HR := Lib.hid (h.below hb).1.2
  clear hb h
  obtain ⟨b, hb⟩ : ∃ b, b = nodesB C := ⟨_, rfl⟩
  rw [← hb]
  have HBB := Lib.hid hb
  clear hb
  go_enter Try.func50, Try.ntmps50
  by_cases h1 : C.f0 < 4
  · have hres := Lib.hid (show b = false by rw [HBB.out]; simp [nodesB, withinB]; omega)
    go_wp2
    go_ret
    exact ⟨ret_bool hres.out.symm, HB.out⟩
  by_cases h2 : 16 < C.f0
  · have hres := Lib.hid (show b = false by rw [HBB.out]; simp [nodesB, withinB]; omega)
    go_wp2
    go_ret
    exact ⟨ret_bool hres.out.symm, HB.out⟩
  by_cases h3 : (C.f1.length : Int) = C.f0
  case neg =>
    have hres := Lib.hid (show b = false by rw [HBB.out]; simp [nodesB, h3])
    have e3 : ((C.f1.length : Int) != C.f0) = true := by simpa using h3
    clear h3
    go_wp2
    go_ret
    exact ⟨ret_bool hres.out.symm, HB.out⟩
  have hbv := Lib.hid (show b = (List.range C.f0.toNat).all fun k => decide (C.f1.count (k : Int) = 1) by
    rw [HBB.out, ← count_one (by omega)]
    simp [nodesB, withinB, h3]; omega)
  have e3 : ((C.f1.length : Int) != C.f0) = false := by simpa using h3
  clear h3 HBB
  obtain ⟨p, hp⟩ : ∃ p, p = fun (n : Nat) => decide (C.f1.count (n : Int) = 1) := ⟨_, rfl⟩
  rw [← hp] at hbv
  have HP := Lib.hid hp
  clear hp
  go_wp2
  go_loop [3] (fun i => ∃ k : Nat, (k : Int) ≤ C.f0 ∧ i = .int .i64 k ∧ Hid ((List.range k).all p = true)) (fun i => C.f0.toNat - (intOf i).toNat)
  case atStart => exact ⟨0, by omega, rfl, Lib.hid rfl⟩
  case round =>
    obtain ⟨k, hk, rfl, HN⟩ := hrel
    by_cases hlt : (k : Int) < C.f0
    · obtain ⟨n, hn⟩ : ∃ n, n = C.f1.count (k : Int) := ⟨_, rfl⟩
      have hpk : p k = decide (n = 1) := by rw [HP.out, hn]
      have HPK := Lib.hid hpk
      have HNN := Lib.hid hn
      clear hpk hn
      go_wp2_with fail
      refine (count_calls _ _ _ _ _ HR.out).mono ?_
      rintro e w' ⟨rfl, rfl⟩
      rw [← HNN.out]
      by_cases h4 : n = 1
      · have HS := Lib.hid (show (List.range (k + 1)).all p = true by rw [all_range_snoc, HN.out, HPK.out, decide_eq_true h4]; rfl)
        subst h4
        go_wp2
        go_round
        case rel => exact ⟨k + 1, by omega, by go_num, HS⟩
        case measure => simp [intOf]; omega
      · have hres := Lib.hid (show b = false by rw [hbv.out]; exact all_range_false (k := k) (by omega) (by rw [HPK.out, decide_eq_false h4]))
        have e4 : ((n : Int) != 1) = true := by simpa using (by omega : ¬ (n : Int) = 1)
        clear h4
        go_wp2
        go_ret
        exact ⟨ret_bool hres.out.symm, HB.out⟩
    · have hres := Lib.hid (show b = true by rw [hbv.out]; have := HN.out; rwa [show k = C.f0.toNat by omega] at this)
      go_wp2
      go_ret
      exact ⟨ret_bool hres.out.symm, HB.out⟩
theorem rprec_calls (A1 A8 A9 A10 A11 : Option Addr) (c1 c8 c9 c10 c11 : Nat) (C : S29) (w : World) : Calls Try.prog 23 #[.agg #[.int .i64 C.f0, .slice A1 C.f1.length c1, .int .i64 C.f2, .int .i64 C.f3, .int .i64 C.f4, .int .i64 C.f5, .int .i64 C.f6, .int .i64 C.f7, .slice A8 C.f8.length c8, .slice A9 C.f9.length c9, .slice A10 C.f10.length c10, .slice A11 C.f11.length c11]] w fun e w' => e = .returned (.int .i64 (precW C)) ∧ Below w.heap.size w w' := by
  go_enter Try.func23, Try.ntmps23
  go_wp2
  go_ret
  exact ⟨rfl, (Below.refl _ _).alloc (Nat.le_refl _) _⟩
theorem rmeet_calls (a b c d : Int) (w : World) (ha : -9223372036854775808 ≤ a) (hb : b ≤ 9223372036854775807) : Calls Try.prog 70 #[.int .i64 a, .int .i64 b, .int .i64 c, .int .i64 d] w fun e w' => e = .returned (.bool (meetB a b c d)) ∧ w = w' := by
  obtain ⟨r, hr⟩ : ∃ r, r = meetB a b c d := ⟨_, rfl⟩
  rw [← hr]
  have HR := Lib.hid hr
  clear hr
  go_enter Try.func70, Try.ntmps70
  go_wp2
  go_loop [9] (fun i => ∃ n : Int, a ≤ n ∧ i = .int .i64 n ∧ Hid (∀ j, a ≤ j → j < n → ¬ (c ≤ j ∧ j < d))) (fun i => (b - intOf i).toNat)
  case atStart => exact ⟨a, by omega, rfl, Lib.hid (fun j _ _ => by omega)⟩
  case round =>
    obtain ⟨n, hn, rfl, HN⟩ := hrel
    by_cases hlt : n < b
    · have w1 : IntKind.i64.wrap (n + 1) = n + 1 := IntWalk.i64_in _ (by omega)
      by_cases h1 : c ≤ n
      · by_cases h2 : n < d
        · have hres := Lib.hid (show r = true by rw [HR.out]; unfold meetB; exact decide_eq_true (by omega))
          go_wp2
          go_ret
          exact ⟨ret_bool hres.out.symm, rfl⟩
        · have HS := Lib.hid (show ∀ j, a ≤ j → j < n + 1 → ¬ (c ≤ j ∧ j < d) from fun j h3 h4 => by
            by_cases h5 : j < n
            · exact HN.out j h3 h5
            · omega)
          go_wp2
          go_round
          case rel => exact ⟨n + 1, by omega, by go_num, HS⟩
          case measure => simp [intOf]; omega
      · have HS := Lib.hid (show ∀ j, a ≤ j → j < n + 1 → ¬ (c ≤ j ∧ j < d) from fun j h3 h4 => by
          by_cases h5 : j < n
          · exact HN.out j h3 h5
          · omega)
        go_wp2
        go_round
        case rel => exact ⟨n + 1, by omega, by go_num, HS⟩
        case measure => simp [intOf]; omega
    · have hres := Lib.hid (show r = false by
        rw [HR.out]; unfold meetB
        refine decide_eq_false (fun h => ?_)
        have := HN.out (max a c) (by omega) (by omega)
        omega)
      go_wp2
      go_ret
      exact ⟨ret_bool hres.out.symm, rfl⟩
set_option maxHeartbeats 2000000 in
theorem rclock_calls (A1 A8 A9 A10 A11 : Option Addr) (c1 c8 c9 c10 c11 : Nat) (C : S29) (w : World) : Calls Try.prog 51 #[.agg #[.int .i64 C.f0, .slice A1 C.f1.length c1, .int .i64 C.f2, .int .i64 C.f3, .int .i64 C.f4, .int .i64 C.f5, .int .i64 C.f6, .int .i64 C.f7, .slice A8 C.f8.length c8, .slice A9 C.f9.length c9, .slice A10 C.f10.length c10, .slice A11 C.f11.length c11]] w fun e w' => e = .returned (.bool (clocksB C)) ∧ Below w.heap.size w w' := by
  obtain ⟨b, hb⟩ : ∃ b, b = clocksB C := ⟨_, rfl⟩
  rw [← hb]
  have HBB := Lib.hid hb
  clear hb
  have HB0 := Lib.hid (show Below w.heap.size w (w.alloc (Obj.cells #[.int .i64 C.f0, .slice A1 C.f1.length c1, .int .i64 C.f2, .int .i64 C.f3, .int .i64 C.f4, .int .i64 C.f5, .int .i64 C.f6, .int .i64 C.f7, .slice A8 C.f8.length c8, .slice A9 C.f9.length c9, .slice A10 C.f10.length c10, .slice A11 C.f11.length c11] 29)) from (Below.refl _ _).alloc (Nat.le_refl _) _)
  go_enter Try.func51, Try.ntmps51
  by_cases h1 : C.f2 < 0
  · have hres := Lib.hid (show b = false by rw [HBB.out]; simp [clocksB, withinB]; omega)
    go_wp2
    go_ret
    exact ⟨ret_bool hres.out.symm, HB0.out⟩
  by_cases h2 : 1048576 < C.f2
  · have hres := Lib.hid (show b = false by rw [HBB.out]; simp [clocksB, withinB]; omega)
    go_wp2
    go_ret
    exact ⟨ret_bool hres.out.symm, HB0.out⟩
  by_cases h3 : C.f3 < 0
  · have hres := Lib.hid (show b = false by rw [HBB.out]; simp [clocksB, withinB]; omega)
    go_wp2
    go_ret
    exact ⟨ret_bool hres.out.symm, HB0.out⟩
  by_cases h4 : 1048576 < C.f3
  · have hres := Lib.hid (show b = false by rw [HBB.out]; simp [clocksB, withinB]; omega)
    go_wp2
    go_ret
    exact ⟨ret_bool hres.out.symm, HB0.out⟩
  obtain ⟨m, hm⟩ : ∃ m, m = leastW C := ⟨_, rfl⟩
  have HM := Lib.hid hm
  have hbv := Lib.hid (show b = (withinB C.f4 m 16777216 && withinB C.f5 m 16777216 && withinB C.f6 1 8 && withinB C.f7 1 16) by
    rw [HBB.out, clocksB, ← hm, withinB, withinB, decide_eq_true (by omega : 0 ≤ C.f2 ∧ C.f2 ≤ 1048576), decide_eq_true (by omega : 0 ≤ C.f3 ∧ C.f3 ≤ 1048576)]; simp)
  clear hm
  go_wp2
  obtain ⟨g0, g1, g2, g3, g4, g5, g6, g7, g8, g9, g10, g11⟩ := cfg_cells (blk_new w (o := (Obj.cells #[.int .i64 C.f0, .slice A1 C.f1.length c1, .int .i64 C.f2, .int .i64 C.f3, .int .i64 C.f4, .int .i64 C.f5, .int .i64 C.f6, .int .i64 C.f7, .slice A8 C.f8.length c8, .slice A9 C.f9.length c9, .slice A10 C.f10.length c10, .slice A11 C.f11.length c11] 29)))
  have hB1 := HB0.out.drew
  go_region_held3 (fun w' => w'.cell? ⟨w.heap.size, 0, none⟩ = some (.int .i64 C.f0) ∧ w'.cell? ⟨w.heap.size, 1, none⟩ = some (.slice A1 C.f1.length c1) ∧ w'.cell? ⟨w.heap.size, 2, none⟩ = some (.int .i64 C.f2) ∧ w'.cell? ⟨w.heap.size, 3, none⟩ = some (.int .i64 C.f3) ∧ w'.cell? ⟨w.heap.size, 4, none⟩ = some (.int .i64 C.f4) ∧ w'.cell? ⟨w.heap.size, 5, none⟩ = some (.int .i64 C.f5) ∧ w'.cell? ⟨w.heap.size, 6, none⟩ = some (.int .i64 C.f6) ∧ w'.cell? ⟨w.heap.size, 7, none⟩ = some (.int .i64 C.f7) ∧ w'.cell? ⟨w.heap.size, 8, none⟩ = some (.slice A8 C.f8.length c8) ∧ w'.cell? ⟨w.heap.size, 9, none⟩ = some (.slice A9 C.f9.length c9) ∧ w'.cell? ⟨w.heap.size, 10, none⟩ = some (.slice A10 C.f10.length c10) ∧ w'.cell? ⟨w.heap.size, 11, none⟩ = some (.slice A11 C.f11.length c11) ∧ Below w.heap.size w w') (first | exact ⟨g0, g1, g2, g3, g4, g5, g6, g7, g8, g9, g10, g11, hB1⟩ | exact ⟨k0, k1, k2, k3, k4, k5, k6, k7, k8, k9, k10, k11, kB⟩) (first | (go_at_call 23; refine (rprec_calls _ _ _ _ _ _ _ _ _ _ _ _).mono ?_; rintro e w' ⟨rfl, hb⟩; obtain ⟨k0, k1, k2, k3, k4, k5, k6, k7, k8, k9, k10, k11⟩ := cells12_below hb ⟨by assumption, by assumption, by assumption, by assumption, by assumption, by assumption, by assumption, by assumption, by assumption, by assumption, by assumption, by assumption⟩; have kB : Below w.heap.size w w' := below_step (by assumption) hb; clear hb))
  rename_i hS
  have EM : IntKind.i64.wrap (IntKind.i64.wrap (precW C + precW C) + C.f3) = m := by rw [HM.out, leastW, Int.two_mul, IntWalk.i64_left, IntWalk.i64_left]
  rw [EM]
  have HB := Lib.hid kB
  clear hS kB g0 g1 g2 g3 g4 g5 g6 g7 g8 g9 g10 g11 EM
  by_cases c1 : m ≤ C.f4
  case neg =>
    have e1 : decide (m ≤ C.f4) = false := decide_eq_false c1
    have hres := Lib.hid (show b = false by rw [hbv.out]; unfold withinB; simp only [Bool.and_eq_false_iff, decide_eq_false_iff_not]; omega)
    go_wp2
    go_ret
    exact ⟨ret_bool hres.out.symm, HB.out⟩
  have e1 : decide (m ≤ C.f4) = true := decide_eq_true c1
  by_cases c2 : C.f4 ≤ 16777216
  case neg =>
    have e2 : decide (C.f4 ≤ 16777216) = false := decide_eq_false c2
    have hres := Lib.hid (show b = false by rw [hbv.out]; unfold withinB; simp only [Bool.and_eq_false_iff, decide_eq_false_iff_not]; omega)
    go_wp2
    go_ret
    exact ⟨ret_bool hres.out.symm, HB.out⟩
  have e2 : decide (C.f4 ≤ 16777216) = true := decide_eq_true c2
  by_cases c3 : m ≤ C.f5
  case neg =>
    have e3 : decide (m ≤ C.f5) = false := decide_eq_false c3
    have hres := Lib.hid (show b = false by rw [hbv.out]; unfold withinB; simp only [Bool.and_eq_false_iff, decide_eq_false_iff_not]; omega)
    go_wp2
    go_ret
    exact ⟨ret_bool hres.out.symm, HB.out⟩
  have e3 : decide (m ≤ C.f5) = true := decide_eq_true c3
  by_cases c4 : C.f5 ≤ 16777216
  case neg =>
    have e4 : decide (C.f5 ≤ 16777216) = false := decide_eq_false c4
    have hres := Lib.hid (show b = false by rw [hbv.out]; unfold withinB; simp only [Bool.and_eq_false_iff, decide_eq_false_iff_not]; omega)
    go_wp2
    go_ret
    exact ⟨ret_bool hres.out.symm, HB.out⟩
  have e4 : decide (C.f5 ≤ 16777216) = true := decide_eq_true c4
  by_cases c5 : 1 ≤ C.f6
  case neg =>
    have e5 : decide (1 ≤ C.f6) = false := decide_eq_false c5
    have hres := Lib.hid (show b = false by rw [hbv.out]; unfold withinB; simp only [Bool.and_eq_false_iff, decide_eq_false_iff_not]; omega)
    go_wp2
    go_ret
    exact ⟨ret_bool hres.out.symm, HB.out⟩
  have e5 : decide (1 ≤ C.f6) = true := decide_eq_true c5
  by_cases c6 : C.f6 ≤ 8
  case neg =>
    have e6 : decide (C.f6 ≤ 8) = false := decide_eq_false c6
    have hres := Lib.hid (show b = false by rw [hbv.out]; unfold withinB; simp only [Bool.and_eq_false_iff, decide_eq_false_iff_not]; omega)
    go_wp2
    go_ret
    exact ⟨ret_bool hres.out.symm, HB.out⟩
  have e6 : decide (C.f6 ≤ 8) = true := decide_eq_true c6
  by_cases c7 : 1 ≤ C.f7
  case neg =>
    have e7 : decide (1 ≤ C.f7) = false := decide_eq_false c7
    have hres := Lib.hid (show b = false by rw [hbv.out]; unfold withinB; simp only [Bool.and_eq_false_iff, decide_eq_false_iff_not]; omega)
    go_wp2
    go_ret
    exact ⟨ret_bool hres.out.symm, HB.out⟩
  have e7 : decide (1 ≤ C.f7) = true := decide_eq_true c7
  by_cases c8 : C.f7 ≤ 16
  case neg =>
    have e8 : decide (C.f7 ≤ 16) = false := decide_eq_false c8
    have hres := Lib.hid (show b = false by rw [hbv.out]; unfold withinB; simp only [Bool.and_eq_false_iff, decide_eq_false_iff_not]; omega)
    go_wp2
    go_ret
    exact ⟨ret_bool hres.out.symm, HB.out⟩
  have e8 : decide (C.f7 ≤ 16) = true := decide_eq_true c8
  have hres := Lib.hid (show b = true by rw [hbv.out]; unfold withinB; simp only [Bool.and_eq_true, decide_eq_true_eq]; omega)
  go_wp2
  go_ret
  exact ⟨ret_bool hres.out.symm, HB.out⟩
end Go.Proofs.Ytehbabkgaecoaaa
