/- What the document's Check answers: what config's own does. -/
import Derived.Test.YtehbabkgaecoaaaRD
import Derived.Test.YtehbabkgaecoaaaOpenZ
namespace Go.Proofs.Ytehbabkgaecoaaa
set_option linter.unusedVariables false
set_option linter.unusedSimpArgs false
open Go.RowKit Go.Shelf Go.Proofs.YtehbabkgaecoaaaW.PrintWords

theorem nodes_bd {C : S29} (h : nodesB C = true) : 4 ≤ C.f0 ∧ C.f0 ≤ 16 := by
  simp only [nodesB, Bool.and_eq_true, withinB, decide_eq_true_eq] at h
  exact ⟨h.1.1.1, h.1.1.2⟩
set_option maxHeartbeats 4000000 in
theorem rcheck_calls (A1 A8 A9 A10 A11 : Option Addr) (c1 c8 c9 c10 c11 : Nat) (C : S29) (w : World) (h : CfgIn w C A1 A8 A9 A10 A11 c1 c8 c9 c10 c11) (hC : CfgOk C) (hz : SzOk C) : Calls Try.prog 21 #[.agg #[.int .i64 C.f0, .slice A1 C.f1.length c1, .int .i64 C.f2, .int .i64 C.f3, .int .i64 C.f4, .int .i64 C.f5, .int .i64 C.f6, .int .i64 C.f7, .slice A8 C.f8.length c8, .slice A9 C.f9.length c9, .slice A10 C.f10.length c10, .slice A11 C.f11.length c11]] w fun e w' => e = .returned (.int .i64 (checkN C)) ∧ Below w.heap.size w w' := by
  have HR := Lib.hid h
  have HCO := Lib.hid hC
  have HSZ := Lib.hid hz
  have HB := Lib.hid (show Below w.heap.size w (w.alloc (Obj.cells #[.int .i64 C.f0, .slice A1 C.f1.length c1, .int .i64 C.f2, .int .i64 C.f3, .int .i64 C.f4, .int .i64 C.f5, .int .i64 C.f6, .int .i64 C.f7, .slice A8 C.f8.length c8, .slice A9 C.f9.length c9, .slice A10 C.f10.length c10, .slice A11 C.f11.length c11] 29)) from (Below.refl _ _).alloc (Nat.le_refl _) _)
  have H1 := Lib.hid (blk_new w (o := (Obj.cells #[.int .i64 C.f0, .slice A1 C.f1.length c1, .int .i64 C.f2, .int .i64 C.f3, .int .i64 C.f4, .int .i64 C.f5, .int .i64 C.f6, .int .i64 C.f7, .slice A8 C.f8.length c8, .slice A9 C.f9.length c9, .slice A10 C.f10.length c10, .slice A11 C.f11.length c11] 29)))
  clear h hC hz
  obtain ⟨r, hr⟩ : ∃ r, r = checkN C := ⟨_, rfl⟩
  rw [← hr]
  have HCK := Lib.hid (show r = if nodesB C = false then 21 else if clocksB C = false then 22 else if partsB C = false then 23 else if windowsB C = false then 24 else if portsB C = false then 25 else if linksB C = false then 26 else 0 from hr)
  clear hr
  go_enter Try.func21, Try.ntmps21
  go_wp2_with fail
  refine (rnodes_calls _ _ _ _ _ _ _ _ _ _ C _ (HR.out.below HB.out)).mono ?_
  rintro e W0 ⟨rfl, hb⟩
  obtain ⟨b0, hb0⟩ : ∃ bb, bb = nodesB C := ⟨_, rfl⟩
  rw [← hb0]
  have E0 := Lib.hid hb0
  replace H1 := Lib.hid (blk_keep hb H1.out)
  replace HB := Lib.hid (below_step HB.out hb)
  clear hb hb0
  cases b0
  case false =>
    have hres := Lib.hid (show r = 21 by rw [HCK.out, if_pos E0.out.symm])
    go_wp2
    go_ret
    exact ⟨ret_int hres.out.symm, HB.out⟩
  obtain ⟨g0, g1, g2, g3, g4, g5, g6, g7, g8, g9, g10, g11⟩ := cfg_cells H1.out
  go_wp2_with fail
  clear g0 g1 g2 g3 g4 g5 g6 g7 g8 g9 g10 g11
  refine (rclock_calls _ _ _ _ _ _ _ _ _ _ C _).mono ?_
  rintro e W1 ⟨rfl, hb⟩
  obtain ⟨b1, hb1⟩ : ∃ bb, bb = clocksB C := ⟨_, rfl⟩
  rw [← hb1]
  have E1 := Lib.hid hb1
  replace H1 := Lib.hid (blk_keep hb H1.out)
  replace HB := Lib.hid (below_step HB.out hb)
  clear hb hb1
  cases b1
  case false =>
    have hres := Lib.hid (show r = 22 by rw [HCK.out, if_neg (by rw [← E0.out]; simp), if_pos E1.out.symm])
    go_wp2
    go_ret
    exact ⟨ret_int hres.out.symm, HB.out⟩
  obtain ⟨g0, g1, g2, g3, g4, g5, g6, g7, g8, g9, g10, g11⟩ := cfg_cells H1.out
  go_wp2_with fail
  clear g0 g1 g2 g3 g4 g5 g6 g7 g8 g9 g10 g11
  refine (rparts_calls _ _ _ _ _ _ _ _ _ _ C _ (HR.out.below HB.out) HCO.out (nodes_bd E0.out.symm).1 (nodes_bd E0.out.symm).2).mono ?_
  rintro e W2 ⟨rfl, hb⟩
  obtain ⟨b2, hb2⟩ : ∃ bb, bb = partsB C := ⟨_, rfl⟩
  rw [← hb2]
  have E2 := Lib.hid hb2
  replace H1 := Lib.hid (blk_keep hb H1.out)
  replace HB := Lib.hid (below_step HB.out hb)
  clear hb hb2
  cases b2
  case false =>
    have hres := Lib.hid (show r = 23 by rw [HCK.out, if_neg (by rw [← E0.out]; simp), if_neg (by rw [← E1.out]; simp), if_pos E2.out.symm])
    go_wp2
    go_ret
    exact ⟨ret_int hres.out.symm, HB.out⟩
  obtain ⟨g0, g1, g2, g3, g4, g5, g6, g7, g8, g9, g10, g11⟩ := cfg_cells H1.out
  go_wp2_with fail
  clear g0 g1 g2 g3 g4 g5 g6 g7 g8 g9 g10 g11
  refine (rwindows_calls _ _ _ _ _ _ _ _ _ _ C _ (HR.out.below HB.out)).mono ?_
  rintro e W3 ⟨rfl, hb⟩
  obtain ⟨b3, hb3⟩ : ∃ bb, bb = windowsB C := ⟨_, rfl⟩
  rw [← hb3]
  have E3 := Lib.hid hb3
  replace H1 := Lib.hid (blk_keep hb H1.out)
  replace HB := Lib.hid (below_step HB.out hb)
  clear hb hb3
  cases b3
  case false =>
    have hres := Lib.hid (show r = 24 by rw [HCK.out, if_neg (by rw [← E0.out]; simp), if_neg (by rw [← E1.out]; simp), if_neg (by rw [← E2.out]; simp), if_pos E3.out.symm])
    go_wp2
    go_ret
    exact ⟨ret_int hres.out.symm, HB.out⟩
  obtain ⟨g0, g1, g2, g3, g4, g5, g6, g7, g8, g9, g10, g11⟩ := cfg_cells H1.out
  go_wp2_with fail
  clear g0 g1 g2 g3 g4 g5 g6 g7 g8 g9 g10 g11
  refine (rports_calls _ _ _ _ _ _ _ _ _ _ C _ (HR.out.below HB.out)).mono ?_
  rintro e W4 ⟨rfl, hb⟩
  obtain ⟨b4, hb4⟩ : ∃ bb, bb = portsB C := ⟨_, rfl⟩
  rw [← hb4]
  have E4 := Lib.hid hb4
  replace H1 := Lib.hid (blk_keep hb H1.out)
  replace HB := Lib.hid (below_step HB.out hb)
  clear hb hb4
  cases b4
  case false =>
    have hres := Lib.hid (show r = 25 by rw [HCK.out, if_neg (by rw [← E0.out]; simp), if_neg (by rw [← E1.out]; simp), if_neg (by rw [← E2.out]; simp), if_neg (by rw [← E3.out]; simp), if_pos E4.out.symm])
    go_wp2
    go_ret
    exact ⟨ret_int hres.out.symm, HB.out⟩
  obtain ⟨g0, g1, g2, g3, g4, g5, g6, g7, g8, g9, g10, g11⟩ := cfg_cells H1.out
  go_wp2_with fail
  clear g0 g1 g2 g3 g4 g5 g6 g7 g8 g9 g10 g11
  refine (rlinks_calls _ _ _ _ _ _ _ _ _ _ C _ (HR.out.below HB.out) E4.out.symm HCO.out HSZ.out.s11').mono ?_
  rintro e W5 ⟨rfl, hb⟩
  obtain ⟨b5, hb5⟩ : ∃ bb, bb = linksB C := ⟨_, rfl⟩
  rw [← hb5]
  have E5 := Lib.hid hb5
  replace H1 := Lib.hid (blk_keep hb H1.out)
  replace HB := Lib.hid (below_step HB.out hb)
  clear hb hb5
  cases b5
  case false =>
    have hres := Lib.hid (show r = 26 by rw [HCK.out, if_neg (by rw [← E0.out]; simp), if_neg (by rw [← E1.out]; simp), if_neg (by rw [← E2.out]; simp), if_neg (by rw [← E3.out]; simp), if_neg (by rw [← E4.out]; simp), if_pos E5.out.symm])
    go_wp2
    go_ret
    exact ⟨ret_int hres.out.symm, HB.out⟩
  have hres := Lib.hid (show r = 0 by rw [HCK.out, if_neg (by rw [← E0.out]; simp), if_neg (by rw [← E1.out]; simp), if_neg (by rw [← E2.out]; simp), if_neg (by rw [← E3.out]; simp), if_neg (by rw [← E4.out]; simp), if_neg (by rw [← E5.out]; simp)])
  go_wp2
  go_ret
  exact ⟨ret_int hres.out.symm, HB.out⟩
end Go.Proofs.Ytehbabkgaecoaaa
