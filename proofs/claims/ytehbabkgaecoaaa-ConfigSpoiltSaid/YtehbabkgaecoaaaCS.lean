/- The walk of ConfigSpoilt. -/
import Derived.Test.YtehbabkgaecoaaaCT
import Derived.Test.YtehbabkgaecoaaaSP
import Derived.Test.YtehbabkgaecoaaaGreat
import Derived.StillTailTactics
namespace Go.Proofs.Ytehbabkgaecoaaa
set_option linter.unusedVariables false
set_option linter.unusedSimpArgs false
open Go.RowKit Go.Shelf Go.Proofs.YtehbabkgaecoaaaW.PrintWords Go.Proofs.YtehbabkgaecoaaaW.PrintLast

theorem drew_cell {V V1 : World} (h : V.drew = V1) {p : Addr} {v : Value} (hc : V.cell? p = some v) : V1.cell? p = some v := by subst h; exact hc
theorem drew_frozen {V V1 : World} (h : V.drew = V1) {p : Addr} {b : Bool} (hc : V.frozen? p = b) : V1.frozen? p = b := by subst h; exact hc
theorem OwnCfg.below {W V : World} {base : Nat} {C : S29} (A1 A8 A9 A10 A11 : Option Addr) (c1 c8 c9 c10 c11 : Nat) (h : OwnCfg W base C A1 A8 A9 A10 A11 c1 c8 c9 c10 c11) (hb : Below W.heap.size W V) : OwnCfg V base C A1 A8 A9 A10 A11 c1 c8 c9 c10 c11 := by
  obtain ⟨b, b2, h1, h2, r1, r8, r9, r10, r11⟩ := h
  exact ⟨b, b2, h1, h2, Kd.R_below r1 hb, Kd.R_below r8 hb, Kd.R_below r9 hb, Kd.R_below r10 hb, Kd.R_below r11 hb⟩
theorem ck_of (A1 A8 A9 A10 A11 : Option Addr) (c1 c8 c9 c10 c11 : Nat) {C : S29} {W : World} {a1 a8 a9 a10 a11 : Nat} (h : CfgIn W C A1 A8 A9 A10 A11 c1 c8 c9 c10 c11) (e1 : C.f1.length = a1) (e8 : C.f8.length = a8) (e9 : C.f9.length = a9) (e10 : C.f10.length = a10) (e11 : C.f11.length = a11) :
    Calls Try.prog 20 #[.agg #[.int .i64 C.f0, .slice A1 a1 c1, .int .i64 C.f2, .int .i64 C.f3, .int .i64 C.f4, .int .i64 C.f5, .int .i64 C.f6, .int .i64 C.f7, .slice A8 a8 c8, .slice A9 a9 c9, .slice A10 a10 c10, .slice A11 a11 c11]] W fun x w' => x = .returned (.int .i64 (checkN C)) ∧ Below W.heap.size W w' := by
  subst e1 e8 e9 e10 e11
  exact check_calls _ _ _ _ _ _ _ _ _ _ C W h
theorem windows_rows {C : S29} (h : windowsB C = true) : (C.f9.length : Int) = C.f0 ∧ ∀ i, i < C.f9.length → ((C.f9.getD i []).length : Int) = C.f0 := by
  unfold windowsB at h
  simp only [Bool.and_eq_true, decide_eq_true_eq, List.all_eq_true] at h
  refine ⟨h.1, fun i hi => ?_⟩
  have := h.2 i (List.mem_range.2 hi)
  unfold winAt at this
  rw [List.getElem?_eq_getElem hi] at this
  simp only [rowOk, Bool.and_eq_true, decide_eq_true_eq] at this
  rw [List.getD_eq_getElem?_getD, List.getElem?_eq_getElem hi]
  exact this.1
theorem checkN_range (C : S29) : checkN C = 0 ∨ 21 ≤ checkN C ∧ checkN C ≤ 26 := by
  unfold checkN; repeat' split
  all_goals omega
theorem checkN_all {C : S29} (h : checkN C = 0) : nodesB C = true ∧ clocksB C = true ∧ partsB C = true ∧ windowsB C = true ∧ portsB C = true ∧ linksB C = true := by
  unfold checkN at h
  repeat' split at h
  all_goals first | omega | simp_all
theorem checkN_22 {C : S29} (h : nodesB C = true) : checkN C = 0 ∨ 22 ≤ checkN C ∧ checkN C ≤ 26 := by
  unfold checkN; rw [h, if_neg (by simp)]; repeat' split
  all_goals omega
theorem checkN_23 {C : S29} (h : nodesB C = true) (h2 : clocksB C = true) : checkN C = 0 ∨ 23 ≤ checkN C ∧ checkN C ≤ 26 := by
  unfold checkN; rw [h, h2, if_neg (by simp), if_neg (by simp)]; repeat' split
  all_goals omega
theorem checkN_24 {C : S29} (h : nodesB C = true) (h2 : clocksB C = true) (h3 : partsB C = true) : checkN C = 0 ∨ 24 ≤ checkN C ∧ checkN C ≤ 26 := by
  unfold checkN; rw [h, h2, h3, if_neg (by simp), if_neg (by simp), if_neg (by simp)]; repeat' split
  all_goals omega
theorem checkN_25 {C : S29} (h : nodesB C = true) (h2 : clocksB C = true) (h3 : partsB C = true) (h4 : windowsB C = true) : checkN C = 0 ∨ 25 ≤ checkN C ∧ checkN C ≤ 26 := by
  unfold checkN; rw [h, h2, h3, h4, if_neg (by simp), if_neg (by simp), if_neg (by simp), if_neg (by simp)]; repeat' split
  all_goals omega
theorem checkN_26 {C : S29} (h : nodesB C = true) (h2 : clocksB C = true) (h3 : partsB C = true) (h4 : windowsB C = true) (h5 : portsB C = true) : checkN C = 0 ∨ 26 ≤ checkN C ∧ checkN C ≤ 26 := by
  unfold checkN; rw [h, h2, h3, h4, h5, if_neg (by simp), if_neg (by simp), if_neg (by simp), if_neg (by simp), if_neg (by simp)]; repeat' split
  all_goals omega
theorem spoil_rejoin {C : S29} (h1 : nodesB C = true) (h2 : clocksB C = true) (x : Int) : ((1 ≤ x ∧ x ≤ 8) ∧ (checkN { C with f6 := x } = 0 ∨ 23 ≤ checkN { C with f6 := x } ∧ checkN { C with f6 := x } ≤ 26)) ∨ ((x < 1 ∨ 8 < x) ∧ checkN { C with f6 := x } = 22) := by
  have hn : nodesB { C with f6 := x } = true := h1
  by_cases hx : 1 ≤ x ∧ x ≤ 8
  · refine .inl ⟨hx, checkN_23 hn ?_⟩
    unfold clocksB at h2 ⊢
    simp only [Bool.and_eq_true] at h2 ⊢
    obtain ⟨⟨⟨⟨⟨q1, q2⟩, q3⟩, q4⟩, q5⟩, q6⟩ := h2
    exact ⟨⟨⟨⟨⟨q1, q2⟩, q3⟩, q4⟩, decide_eq_true hx⟩, q6⟩
  · refine .inr ⟨by omega, ?_⟩
    have hc : clocksB { C with f6 := x } = false := by
      unfold clocksB
      rw [show withinB x 1 8 = false from decide_eq_false hx]
      simp
    unfold checkN
    rw [hn, hc]; rfl
theorem spoil_margin {C : S29} (h1 : nodesB C = true) (h2 : clocksB C = true) (x : Int) : (1 ≤ precW C ∧ precW C ≤ 4194305) ∧ (0 ≤ C.f3 ∧ C.f3 ≤ 1048576) ∧
    ((2 * precW C + C.f3 ≤ x ∧ x ≤ 16777216 ∧ (checkN { C with f4 := x } = 0 ∨ 22 ≤ checkN { C with f4 := x } ∧ checkN { C with f4 := x } ≤ 26)) ∨ (x < 2 * precW C + C.f3 ∧ checkN { C with f4 := x } = 22) ∨ (2 * precW C + C.f3 ≤ x ∧ 16777216 < x ∧ checkN { C with f4 := x } = 22)) := by
  have hn : nodesB { C with f4 := x } = true := h1
  unfold clocksB at h2
  simp only [Bool.and_eq_true] at h2
  obtain ⟨⟨⟨⟨⟨q1, q2⟩, q3⟩, q4⟩, q5⟩, q6⟩ := h2
  have a1 := of_decide_eq_true q1
  have a2 := of_decide_eq_true q2
  have hp : precW C = 2 * (C.f2 + C.f3) + 1 := by
    unfold precW
    rw [IntWalk.wrap64_in (C.f2 + C.f3) ⟨by omega, by omega⟩, IntWalk.wrap64_in (2 * (C.f2 + C.f3)) ⟨by omega, by omega⟩, IntWalk.wrap64_in _ ⟨by omega, by omega⟩]
  have hl : leastW C = 2 * precW C + C.f3 := by
    unfold leastW
    rw [IntWalk.wrap64_in (2 * precW C) ⟨by omega, by omega⟩, IntWalk.wrap64_in _ ⟨by omega, by omega⟩]
  have hb : ¬ (2 * precW C + C.f3 ≤ x ∧ x ≤ 16777216) → checkN { C with f4 := x } = 22 := by
    intro hx
    have hc : clocksB { C with f4 := x } = false := by
      unfold clocksB
      rw [show leastW { C with f4 := x } = leastW C from rfl, hl, show withinB x (2 * precW C + C.f3) 16777216 = false from decide_eq_false hx]
      simp
    unfold checkN
    rw [hn, hc]; rfl
  refine ⟨⟨by omega, by omega⟩, a2, ?_⟩
  by_cases hx : 2 * precW C + C.f3 ≤ x
  · by_cases hy : x ≤ 16777216
    · exact .inl ⟨hx, hy, checkN_22 hn⟩
    · exact .inr (.inr ⟨hx, by omega, hb (by omega)⟩)
  · exact .inr (.inl ⟨by omega, hb (by omega)⟩)
set_option maxRecDepth 100000 in
set_option maxHeartbeats 100000000 in
theorem spoilt_calls (w : World) (A1 A8 A9 A10 A11 : Option Addr) (c1 c8 c9 c10 c11 : Nat) (C : S29) (h : CfgIn w C A1 A8 A9 A10 A11 c1 c8 c9 c10 c11) (_hC : CfgOk C) (hz : SzOk C) (f : Int) (_hf : I64 f) (at_ : Int) (ha : (Lit.int .u8 at_).wf = true) (x : Int) (_hx : I64 x) :
    Calls Try.prog 8 #[.agg #[.int .i64 C.f0, .slice A1 C.f1.length c1, .int .i64 C.f2, .int .i64 C.f3, .int .i64 C.f4, .int .i64 C.f5, .int .i64 C.f6, .int .i64 C.f7, .slice A8 C.f8.length c8, .slice A9 C.f9.length c9, .slice A10 C.f10.length c10, .slice A11 C.f11.length c11], .agg #[.int .i64 f, .int .u8 at_, .int .i64 x]] w fun e w' => e = .returned (.bool true) ∧ Below w.heap.size w w' := by
  obtain ⟨n0, n1⟩ := u8_bd ha
  have HR := Lib.hid h
  have HZ := Lib.hid hz
  have HB := Lib.hid (show Below w.heap.size w ((w.alloc (Obj.cells #[.int .i64 C.f0, .slice A1 C.f1.length c1, .int .i64 C.f2, .int .i64 C.f3, .int .i64 C.f4, .int .i64 C.f5, .int .i64 C.f6, .int .i64 C.f7, .slice A8 C.f8.length c8, .slice A9 C.f9.length c9, .slice A10 C.f10.length c10, .slice A11 C.f11.length c11] 29)).alloc (Obj.cells #[.int .i64 f, .int .u8 at_, .int .i64 x] 55)) from ((Below.refl _ _).alloc (Nat.le_refl _) _).alloc (by simp) _)
  have H0 := Lib.hid (blk_alloc (blk_new w (o := (Obj.cells #[.int .i64 C.f0, .slice A1 C.f1.length c1, .int .i64 C.f2, .int .i64 C.f3, .int .i64 C.f4, .int .i64 C.f5, .int .i64 C.f6, .int .i64 C.f7, .slice A8 C.f8.length c8, .slice A9 C.f9.length c9, .slice A10 C.f10.length c10, .slice A11 C.f11.length c11] 29))) (Obj.cells #[.int .i64 f, .int .u8 at_, .int .i64 x] 55))
  have HX := Lib.hid (blk_new_at (n := w.heap.size + 1) (w.alloc (Obj.cells #[.int .i64 C.f0, .slice A1 C.f1.length c1, .int .i64 C.f2, .int .i64 C.f3, .int .i64 C.f4, .int .i64 C.f5, .int .i64 C.f6, .int .i64 C.f7, .slice A8 C.f8.length c8, .slice A9 C.f9.length c9, .slice A10 C.f10.length c10, .slice A11 C.f11.length c11] 29)) (Obj.cells #[.int .i64 f, .int .u8 at_, .int .i64 x] 55) (by simp))
  clear h ha hz _hC _hf _hx
  go_enter Try.func8, Try.ntmps8
  obtain ⟨k0, k1, k2, k3, k4, k5, k6, k7, k8, k9, k10, k11⟩ := cfg_cells H0.out
  go_wp2_with fail
  refine (alive_calls _).mono ?_
  rintro e u ⟨rfl, hb⟩
  clear k0 k1 k2 k3 k4 k5 k6 k7 k8 k9 k10 k11
  replace H0 := Lib.hid (blk_keep hb H0.out)
  replace HX := Lib.hid (blk_keep hb HX.out)
  replace HB := Lib.hid (below_step HB.out hb)
  clear hb
  obtain ⟨k0, k1, k2, k3, k4, k5, k6, k7, k8, k9, k10, k11⟩ := cfg_cells H0.out
  obtain ⟨gr, hgr⟩ : ∃ gr, gr = greatB C := ⟨_, rfl⟩
  have HG := Lib.hid hgr
  clear hgr
  go_wp2_with fail
  refine (great_calls _ _ _ _ _ _ _ _ _ _ C _ (HR.out.below HB.out)).mono ?_
  rintro e u ⟨rfl, hb⟩
  clear k0 k1 k2 k3 k4 k5 k6 k7 k8 k9 k10 k11
  replace H0 := Lib.hid (blk_keep hb H0.out)
  replace HX := Lib.hid (blk_keep hb HX.out)
  replace HB := Lib.hid (below_step HB.out hb)
  clear hb
  obtain ⟨k0, k1, k2, k3, k4, k5, k6, k7, k8, k9, k10, k11⟩ := cfg_cells H0.out
  rw [← HG.out]
  cases gr
  case true =>
    go_wp2
    go_ret
    exact ⟨rfl, HB.out⟩
  obtain ⟨n, hn⟩ : ∃ n, n = checkN C := ⟨_, rfl⟩
  have EN := Lib.hid hn
  clear hn
  go_wp2_with fail
  refine (check_calls _ _ _ _ _ _ _ _ _ _ C _ (HR.out.below HB.out)).mono ?_
  rintro e u ⟨rfl, hb⟩
  clear k0 k1 k2 k3 k4 k5 k6 k7 k8 k9 k10 k11
  replace H0 := Lib.hid (blk_keep hb H0.out)
  replace HX := Lib.hid (blk_keep hb HX.out)
  replace HB := Lib.hid (below_step HB.out hb)
  clear hb
  obtain ⟨k0, k1, k2, k3, k4, k5, k6, k7, k8, k9, k10, k11⟩ := cfg_cells H0.out
  rw [← EN.out]
  by_cases hc : n = 0
  case neg =>
    have e0 : (n != 0) = true := by simpa using hc
    clear hc
    go_wp2
    go_ret
    exact ⟨rfl, HB.out⟩
  subst hc
  have EC := Lib.hid EN.out.symm
  clear EN
  go_wp2_with fail
  refine (twin_own _ _ _ _ _ _ _ _ _ _ C _ (HR.out.below HB.out) HZ.out).mono ?_
  have HLT := Lib.hid (blk_lt HX.out)
  rintro e W2 ⟨B1, B8, B9, B10, B11, d1, d8, d9, d10, d11, rfl, hin, hb⟩
  clear k0 k1 k2 k3 k4 k5 k6 k7 k8 k9 k10 k11
  have hba : Below W2.heap.size W2 (W2.alloc (Obj.cells #[.int .i64 C.f0, .slice B1 C.f1.length d1, .int .i64 C.f2, .int .i64 C.f3, .int .i64 C.f4, .int .i64 C.f5, .int .i64 C.f6, .int .i64 C.f7, .slice B8 C.f8.length d8, .slice B9 C.f9.length d9, .slice B10 C.f10.length d10, .slice B11 C.f11.length d11] 29)) := (Below.refl _ _).alloc (Nat.le_refl _) _
  have HO2 := Lib.hid hin
  have H02 := Lib.hid (blk_keep hb H0.out)
  have HX2 := Lib.hid (blk_keep hb HX.out)
  have HB2 := Lib.hid (below_step HB.out hb)
  have HO := Lib.hid (hin.below _ _ _ _ _ _ _ _ _ _ hba)
  replace H0 := Lib.hid (blk_keep hba (blk_keep hb H0.out))
  replace HX := Lib.hid (blk_keep hba (blk_keep hb HX.out))
  replace HB := Lib.hid (below_step (below_step HB.out hb) hba)
  have HD := Lib.hid (blk_new W2 (Obj.cells #[.int .i64 C.f0, .slice B1 C.f1.length d1, .int .i64 C.f2, .int .i64 C.f3, .int .i64 C.f4, .int .i64 C.f5, .int .i64 C.f6, .int .i64 C.f7, .slice B8 C.f8.length d8, .slice B9 C.f9.length d9, .slice B10 C.f10.length d10, .slice B11 C.f11.length d11] 29))
  clear hin hba hb
  obtain ⟨m0, m1, m2, m3, m4, m5, m6, m7, m8, m9, m10, m11⟩ := cfg_cells HD.out
  have y0 : (W2.alloc (Obj.cells #[.int .i64 C.f0, .slice B1 C.f1.length d1, .int .i64 C.f2, .int .i64 C.f3, .int .i64 C.f4, .int .i64 C.f5, .int .i64 C.f6, .int .i64 C.f7, .slice B8 C.f8.length d8, .slice B9 C.f9.length d9, .slice B10 C.f10.length d10, .slice B11 C.f11.length d11] 29)).cell? ⟨w.heap.size + 1, 0, none⟩ = some (.int .i64 f) := blk_cell HX.out 0
  have y1 : (W2.alloc (Obj.cells #[.int .i64 C.f0, .slice B1 C.f1.length d1, .int .i64 C.f2, .int .i64 C.f3, .int .i64 C.f4, .int .i64 C.f5, .int .i64 C.f6, .int .i64 C.f7, .slice B8 C.f8.length d8, .slice B9 C.f9.length d9, .slice B10 C.f10.length d10, .slice B11 C.f11.length d11] 29)).cell? ⟨w.heap.size + 1, 1, none⟩ = some (.int .u8 at_) := blk_cell HX.out 1
  have y2 : (W2.alloc (Obj.cells #[.int .i64 C.f0, .slice B1 C.f1.length d1, .int .i64 C.f2, .int .i64 C.f3, .int .i64 C.f4, .int .i64 C.f5, .int .i64 C.f6, .int .i64 C.f7, .slice B8 C.f8.length d8, .slice B9 C.f9.length d9, .slice B10 C.f10.length d10, .slice B11 C.f11.length d11] 29)).cell? ⟨w.heap.size + 1, 2, none⟩ = some (.int .i64 x) := blk_cell HX.out 2
  obtain ⟨⟨b0, b1⟩, b2, -⟩ := check_nodes EC.out
  have B2 := Lib.hid b2
  clear b2
  by_cases f0 : f = 0
  · as_aux_lemma =>
    subst f0
    go_wp2_with fail
    refine wp_region_still_tail 10 (by kernel_rfl) (by kernel_rfl) ?_
    simp only [List.take_succ_cons, List.take_zero, List.drop_succ_cons, List.drop_zero]
    change wpStill _ _ (W2.alloc (Obj.cells #[.int .i64 C.f0, .slice B1 C.f1.length d1, .int .i64 C.f2, .int .i64 C.f3, .int .i64 C.f4, .int .i64 C.f5, .int .i64 C.f6, .int .i64 C.f7, .slice B8 C.f8.length d8, .slice B9 C.f9.length d9, .slice B10 C.f10.length d10, .slice B11 C.f11.length d11] 29)).drew _ _ _
    clear m0 m1 m2 m3 m4 m5 m6 m7 m8 m9 m10 m11 y0 y1 y2
    have hbd : Below (W2.alloc (Obj.cells #[.int .i64 C.f0, .slice B1 C.f1.length d1, .int .i64 C.f2, .int .i64 C.f3, .int .i64 C.f4, .int .i64 C.f5, .int .i64 C.f6, .int .i64 C.f7, .slice B8 C.f8.length d8, .slice B9 C.f9.length d9, .slice B10 C.f10.length d10, .slice B11 C.f11.length d11] 29)).heap.size (W2.alloc (Obj.cells #[.int .i64 C.f0, .slice B1 C.f1.length d1, .int .i64 C.f2, .int .i64 C.f3, .int .i64 C.f4, .int .i64 C.f5, .int .i64 C.f6, .int .i64 C.f7, .slice B8 C.f8.length d8, .slice B9 C.f9.length d9, .slice B10 C.f10.length d10, .slice B11 C.f11.length d11] 29)) (W2.alloc (Obj.cells #[.int .i64 C.f0, .slice B1 C.f1.length d1, .int .i64 C.f2, .int .i64 C.f3, .int .i64 C.f4, .int .i64 C.f5, .int .i64 C.f6, .int .i64 C.f7, .slice B8 C.f8.length d8, .slice B9 C.f9.length d9, .slice B10 C.f10.length d10, .slice B11 C.f11.length d11] 29)).drew := (Below.refl _ _).drew
    replace HO := Lib.hid (HO.out.below _ _ _ _ _ _ _ _ _ _ hbd)
    replace H0 := Lib.hid (blk_keep hbd H0.out)
    replace HX := Lib.hid (blk_keep hbd HX.out)
    replace HD := Lib.hid (blk_keep hbd HD.out)
    replace HB := Lib.hid (below_step HB.out hbd)
    clear hbd
    generalize hV1 : (W2.alloc (Obj.cells #[.int .i64 C.f0, .slice B1 C.f1.length d1, .int .i64 C.f2, .int .i64 C.f3, .int .i64 C.f4, .int .i64 C.f5, .int .i64 C.f6, .int .i64 C.f7, .slice B8 C.f8.length d8, .slice B9 C.f9.length d9, .slice B10 C.f10.length d10, .slice B11 C.f11.length d11] 29)).drew = V1 at *
    have y2 : V1.cell? ⟨w.heap.size + 1, 2, none⟩ = some (.int .i64 x) := blk_cell HX.out 2
    obtain ⟨ix, hix⟩ : ∃ i : Nat, (i : Int) = at_ % C.f1.length := ⟨(at_ % C.f1.length).toNat, by have := Int.emod_nonneg at_ (show (C.f1.length : Int) ≠ 0 by have := B2.out; omega); omega⟩
    have hil : ix < C.f1.length := by have := Int.emod_lt_of_pos at_ (show (0 : Int) < C.f1.length by have := B2.out; omega); omega
    have p1 : ¬ C.f1 = [] := fun h => by rw [h] at hil; simp at hil
    have e1 : at_.tmod (C.f1.length : Int) = (ix : Int) := by rw [Int.tmod_eq_emod_of_nonneg n0]; exact hix.symm
    clear hix
    obtain ⟨g, v, hA, hg, ⟨cells, hcg⟩, hv, hf, hN⟩ := spoil0 HO.out ix hil
    subst hA
    have HN := Lib.hid (hN x)
    obtain ⟨m1, m2⟩ : V1.cell? ⟨W2.heap.size, 1, none⟩ = some (.slice (some ⟨g, 0, none⟩) C.f1.length d1) ∧ True := ⟨blk_cell HD.out 1, trivial⟩
    have hne0 : w.heap.size ≠ g := by have := HLT.out; omega
    have hneX : w.heap.size + 1 ≠ g := by have := HLT.out; omega
    have hneD : W2.heap.size ≠ g := by
      intro he
      have h1 := HD.out
      rw [he, hcg] at h1
      cases h1
    replace H0 := Lib.hid (blk_far H0.out (p := ⟨g, ix, none⟩) hne0 (.int .i64 x))
    replace HX := Lib.hid (blk_far HX.out (p := ⟨g, ix, none⟩) hneX (.int .i64 x))
    have HD2 := Lib.hid (blk_far HD.out (p := ⟨g, ix, none⟩) hneD (.int .i64 x))
    replace HB := Lib.hid (HB.out.setCell (p := ⟨g, ix, none⟩) (by have := HLT.out; show w.heap.size ≤ g; omega) (.int .i64 x))
    obtain ⟨t0, t1, t2, t3, t4, t5, t6, t7, t8, t9, t10, t11⟩ := cfg_cells HD2.out
    clear hne0 hneX hneD hcg hg
    repeat still_step
    refine wpStill_nil ?_
    change wpList _ _ _ _ _ (W2.alloc _).drew
    rw [hV1]
    go_wp2_with fail
    clear t0 t1 t2 t3 t4 t5 t6 t7 t8 t9 t10 t11 HD2
    refine (ck_of _ _ _ _ _ _ _ _ _ _ HN.out List.length_set rfl rfl rfl rfl).mono ?_
    have HR2 := Lib.hid (checkN_range { C with f1 := C.f1.set ix x })
    rintro e u2 ⟨rfl, hb⟩
    replace H0 := Lib.hid (blk_keep hb H0.out)
    replace HX := Lib.hid (blk_keep hb HX.out)
    replace HB := Lib.hid (below_step HB.out hb)
    clear hb
    generalize checkN { C with f1 := C.f1.set ix x } = q at *
    have y0 := blk_cell HX.out 0
    have y2 := blk_cell HX.out 2
    obtain ⟨k0, k1, k2, k3, k4, k5, k6, k7, k8, k9, k10, k11⟩ := cfg_cells H0.out
    rcases HR2.out with hq | ⟨hq1, hq2⟩
    · subst hq
      go_wp2_with fail
      go_quiet (fail)
      go_wp2_with fail
      refine (check_calls _ _ _ _ _ _ _ _ _ _ C _ ((HR.out.below HB.out).below (pw_below_drewN (Below.refl _ _) _))).mono ?_
      rintro e u3 ⟨rfl, hb⟩
      rw [EC.out]
      replace HB := Lib.hid (below_step (below_step HB.out (pw_below_drewN (Below.refl _ _) _)) hb)
      clear hb
      go_wp2
      go_ret
      exact ⟨rfl, HB.out⟩
    · go_wp2_with fail
      go_quiet (fail)
      have q0 : (q == 0) = false := beq_eq_false_iff_ne.2 (by omega)
      go_wp2_with fail
      refine (check_calls _ _ _ _ _ _ _ _ _ _ C _ ((HR.out.below HB.out).below (pw_below_drewN (Below.refl _ _) _))).mono ?_
      rintro e u3 ⟨rfl, hb⟩
      rw [EC.out]
      replace HB := Lib.hid (below_step (below_step HB.out (pw_below_drewN (Below.refl _ _) _)) hb)
      clear hb
      go_wp2
      go_ret
      exact ⟨rfl, HB.out⟩
  have HALL := Lib.hid (checkN_all EC.out)
  by_cases f3 : f = 3
  · as_aux_lemma =>
    subst f3
    by_cases hp : 0 < C.f8.length
    · go_wp2_with fail
      refine wp_region_still_tail 11 (by kernel_rfl) (by kernel_rfl) ?_
      simp only [List.take_succ_cons, List.take_zero, List.drop_succ_cons, List.drop_zero]
      change wpStill _ _ (W2.alloc (Obj.cells #[.int .i64 C.f0, .slice B1 C.f1.length d1, .int .i64 C.f2, .int .i64 C.f3, .int .i64 C.f4, .int .i64 C.f5, .int .i64 C.f6, .int .i64 C.f7, .slice B8 C.f8.length d8, .slice B9 C.f9.length d9, .slice B10 C.f10.length d10, .slice B11 C.f11.length d11] 29)).drew _ _ _
      clear m0 m1 m2 m3 m4 m5 m6 m7 m8 m9 m10 m11 y0 y1 y2
      have hbd : Below (W2.alloc (Obj.cells #[.int .i64 C.f0, .slice B1 C.f1.length d1, .int .i64 C.f2, .int .i64 C.f3, .int .i64 C.f4, .int .i64 C.f5, .int .i64 C.f6, .int .i64 C.f7, .slice B8 C.f8.length d8, .slice B9 C.f9.length d9, .slice B10 C.f10.length d10, .slice B11 C.f11.length d11] 29)).heap.size (W2.alloc (Obj.cells #[.int .i64 C.f0, .slice B1 C.f1.length d1, .int .i64 C.f2, .int .i64 C.f3, .int .i64 C.f4, .int .i64 C.f5, .int .i64 C.f6, .int .i64 C.f7, .slice B8 C.f8.length d8, .slice B9 C.f9.length d9, .slice B10 C.f10.length d10, .slice B11 C.f11.length d11] 29)) (W2.alloc (Obj.cells #[.int .i64 C.f0, .slice B1 C.f1.length d1, .int .i64 C.f2, .int .i64 C.f3, .int .i64 C.f4, .int .i64 C.f5, .int .i64 C.f6, .int .i64 C.f7, .slice B8 C.f8.length d8, .slice B9 C.f9.length d9, .slice B10 C.f10.length d10, .slice B11 C.f11.length d11] 29)).drew := (Below.refl _ _).drew
      replace HO := Lib.hid (HO.out.below _ _ _ _ _ _ _ _ _ _ hbd)
      replace H0 := Lib.hid (blk_keep hbd H0.out)
      replace HX := Lib.hid (blk_keep hbd HX.out)
      replace HD := Lib.hid (blk_keep hbd HD.out)
      replace HB := Lib.hid (below_step HB.out hbd)
      clear hbd
      generalize hV1 : (W2.alloc (Obj.cells #[.int .i64 C.f0, .slice B1 C.f1.length d1, .int .i64 C.f2, .int .i64 C.f3, .int .i64 C.f4, .int .i64 C.f5, .int .i64 C.f6, .int .i64 C.f7, .slice B8 C.f8.length d8, .slice B9 C.f9.length d9, .slice B10 C.f10.length d10, .slice B11 C.f11.length d11] 29)).drew = V1 at *
      have y2 : V1.cell? ⟨w.heap.size + 1, 2, none⟩ = some (.int .i64 x) := blk_cell HX.out 2
      obtain ⟨ix, hix⟩ : ∃ i : Nat, (i : Int) = at_ % C.f8.length := ⟨(at_ % C.f8.length).toNat, by have := Int.emod_nonneg at_ (show (C.f8.length : Int) ≠ 0 by omega); omega⟩
      have hil : ix < C.f8.length := by have := Int.emod_lt_of_pos at_ (show (0 : Int) < C.f8.length by omega); omega
      have p1 : ¬ C.f8 = [] := fun h => by rw [h] at hil; simp at hil
      have e1 : at_.tmod (C.f8.length : Int) = (ix : Int) := by rw [Int.tmod_eq_emod_of_nonneg n0]; exact hix.symm
      clear hix
      obtain ⟨g, v, hA, hg, ⟨cells, hcg⟩, hv, hf, hN⟩ := spoil3 HO.out ix hil
      subst hA
      obtain ⟨l, hl, hN1⟩ := hN x
      have HN := Lib.hid hN1
      have HL := Lib.hid hl
      clear hN hN1 hl
      obtain ⟨m1, m2⟩ : V1.cell? ⟨W2.heap.size, 8, none⟩ = some (.slice (some ⟨g, 0, none⟩) C.f8.length d8) ∧ True := ⟨blk_cell HD.out 8, trivial⟩
      have hne0 : w.heap.size ≠ g := by have := HLT.out; omega
      have hneX : w.heap.size + 1 ≠ g := by have := HLT.out; omega
      have hneD : W2.heap.size ≠ g := by
        intro he
        have h1 := HD.out
        rw [he, hcg] at h1
        cases h1
      replace H0 := Lib.hid (blk_far H0.out (p := ⟨g, ix * 3 + 2, none⟩) hne0 (.int .i64 x))
      replace HX := Lib.hid (blk_far HX.out (p := ⟨g, ix * 3 + 2, none⟩) hneX (.int .i64 x))
      have HD2 := Lib.hid (blk_far HD.out (p := ⟨g, ix * 3 + 2, none⟩) hneD (.int .i64 x))
      replace HB := Lib.hid (HB.out.setCell (p := ⟨g, ix * 3 + 2, none⟩) (by have := HLT.out; show w.heap.size ≤ g; omega) (.int .i64 x))
      obtain ⟨t0, t1, t2, t3, t4, t5, t6, t7, t8, t9, t10, t11⟩ := cfg_cells HD2.out
      clear hne0 hneX hneD hcg hg
      repeat still_step
      refine wpStill_nil ?_
      change wpList _ _ _ _ _ (W2.alloc _).drew
      rw [hV1]
      go_wp2_with fail
      clear t0 t1 t2 t3 t4 t5 t6 t7 t8 t9 t10 t11 HD2
      refine (ck_of _ _ _ _ _ _ _ _ _ _ HN.out rfl HL.out rfl rfl rfl).mono ?_
      have HR2 := Lib.hid (checkN_23 HALL.out.1 HALL.out.2.1 : checkN { C with f8 := l } = 0 ∨ 23 ≤ checkN { C with f8 := l } ∧ checkN { C with f8 := l } ≤ 26)
      rintro e u2 ⟨rfl, hb⟩
      replace H0 := Lib.hid (blk_keep hb H0.out)
      replace HX := Lib.hid (blk_keep hb HX.out)
      replace HB := Lib.hid (below_step HB.out hb)
      clear hb
      generalize checkN { C with f8 := l } = q at *
      have y0 := blk_cell HX.out 0
      have y2 := blk_cell HX.out 2
      obtain ⟨k0, k1, k2, k3, k4, k5, k6, k7, k8, k9, k10, k11⟩ := cfg_cells H0.out
      rcases HR2.out with hq | ⟨hq1, hq2⟩
      · subst hq
        go_wp2_with fail
        go_quiet (fail)
        go_wp2_with fail
        refine (check_calls _ _ _ _ _ _ _ _ _ _ C _ ((HR.out.below HB.out).below (pw_below_drewN (Below.refl _ _) _))).mono ?_
        rintro e u3 ⟨rfl, hb⟩
        rw [EC.out]
        replace HB := Lib.hid (below_step (below_step HB.out (pw_below_drewN (Below.refl _ _) _)) hb)
        clear hb
        go_wp2
        go_ret
        exact ⟨rfl, HB.out⟩
      · go_wp2_with fail
        go_quiet (fail)
        have q0 : (q == 0) = false := beq_eq_false_iff_ne.2 (by omega)
        go_wp2_with fail
        refine (check_calls _ _ _ _ _ _ _ _ _ _ C _ ((HR.out.below HB.out).below (pw_below_drewN (Below.refl _ _) _))).mono ?_
        rintro e u3 ⟨rfl, hb⟩
        rw [EC.out]
        replace HB := Lib.hid (below_step (below_step HB.out (pw_below_drewN (Below.refl _ _) _)) hb)
        clear hb
        go_wp2
        go_ret
        exact ⟨rfl, HB.out⟩
    · have hp0 : C.f8 = [] := List.eq_nil_of_length_eq_zero (by omega)
      have p0 : ((C.f8.length : Int) == 0) = true := by rw [hp0]; rfl
      have p2 : decide (0 < (C.f8.length : Int)) = false := decide_eq_false (by omega)
      clear hp0
      go_wp2_with fail
      refine (check_calls B1 B8 B9 B10 B11 d1 d8 d9 d10 d11 C _ (HO.out.in_ _ _ _ _ _ _ _ _ _ _)).mono ?_
      rintro e u2 ⟨rfl, hb⟩
      rw [EC.out]
      replace H0 := Lib.hid (blk_keep hb H0.out)
      replace HX := Lib.hid (blk_keep hb HX.out)
      replace HB := Lib.hid (below_step HB.out hb)
      clear hb m0 m1 m2 m3 m4 m5 m6 m7 m8 m9 m10 m11 y0 y1 y2
      have y0 := blk_cell HX.out 0
      have y2 := blk_cell HX.out 2
      obtain ⟨k0, k1, k2, k3, k4, k5, k6, k7, k8, k9, k10, k11⟩ := cfg_cells H0.out
      go_wp2_with fail
      go_quiet (fail)
      go_wp2_with fail
      refine (check_calls _ _ _ _ _ _ _ _ _ _ C _ ((HR.out.below HB.out).below (pw_below_drewN (Below.refl _ _) _))).mono ?_
      rintro e u3 ⟨rfl, hb⟩
      rw [EC.out]
      replace HB := Lib.hid (below_step (below_step HB.out (pw_below_drewN (Below.refl _ _) _)) hb)
      clear hb
      go_wp2
      go_ret
      exact ⟨rfl, HB.out⟩
  by_cases f5 : f = 5
  · as_aux_lemma =>
    subst f5
    by_cases hp : 0 < C.f10.length
    · go_wp2_with fail
      refine wp_region_still_tail 11 (by kernel_rfl) (by kernel_rfl) ?_
      simp only [List.take_succ_cons, List.take_zero, List.drop_succ_cons, List.drop_zero]
      change wpStill _ _ (W2.alloc (Obj.cells #[.int .i64 C.f0, .slice B1 C.f1.length d1, .int .i64 C.f2, .int .i64 C.f3, .int .i64 C.f4, .int .i64 C.f5, .int .i64 C.f6, .int .i64 C.f7, .slice B8 C.f8.length d8, .slice B9 C.f9.length d9, .slice B10 C.f10.length d10, .slice B11 C.f11.length d11] 29)).drew _ _ _
      clear m0 m1 m2 m3 m4 m5 m6 m7 m8 m9 m10 m11 y0 y1 y2
      have hbd : Below (W2.alloc (Obj.cells #[.int .i64 C.f0, .slice B1 C.f1.length d1, .int .i64 C.f2, .int .i64 C.f3, .int .i64 C.f4, .int .i64 C.f5, .int .i64 C.f6, .int .i64 C.f7, .slice B8 C.f8.length d8, .slice B9 C.f9.length d9, .slice B10 C.f10.length d10, .slice B11 C.f11.length d11] 29)).heap.size (W2.alloc (Obj.cells #[.int .i64 C.f0, .slice B1 C.f1.length d1, .int .i64 C.f2, .int .i64 C.f3, .int .i64 C.f4, .int .i64 C.f5, .int .i64 C.f6, .int .i64 C.f7, .slice B8 C.f8.length d8, .slice B9 C.f9.length d9, .slice B10 C.f10.length d10, .slice B11 C.f11.length d11] 29)) (W2.alloc (Obj.cells #[.int .i64 C.f0, .slice B1 C.f1.length d1, .int .i64 C.f2, .int .i64 C.f3, .int .i64 C.f4, .int .i64 C.f5, .int .i64 C.f6, .int .i64 C.f7, .slice B8 C.f8.length d8, .slice B9 C.f9.length d9, .slice B10 C.f10.length d10, .slice B11 C.f11.length d11] 29)).drew := (Below.refl _ _).drew
      replace HO := Lib.hid (HO.out.below _ _ _ _ _ _ _ _ _ _ hbd)
      replace H0 := Lib.hid (blk_keep hbd H0.out)
      replace HX := Lib.hid (blk_keep hbd HX.out)
      replace HD := Lib.hid (blk_keep hbd HD.out)
      replace HB := Lib.hid (below_step HB.out hbd)
      clear hbd
      generalize hV1 : (W2.alloc (Obj.cells #[.int .i64 C.f0, .slice B1 C.f1.length d1, .int .i64 C.f2, .int .i64 C.f3, .int .i64 C.f4, .int .i64 C.f5, .int .i64 C.f6, .int .i64 C.f7, .slice B8 C.f8.length d8, .slice B9 C.f9.length d9, .slice B10 C.f10.length d10, .slice B11 C.f11.length d11] 29)).drew = V1 at *
      have y2 : V1.cell? ⟨w.heap.size + 1, 2, none⟩ = some (.int .i64 x) := blk_cell HX.out 2
      obtain ⟨ix, hix⟩ : ∃ i : Nat, (i : Int) = at_ % C.f10.length := ⟨(at_ % C.f10.length).toNat, by have := Int.emod_nonneg at_ (show (C.f10.length : Int) ≠ 0 by omega); omega⟩
      have hil : ix < C.f10.length := by have := Int.emod_lt_of_pos at_ (show (0 : Int) < C.f10.length by omega); omega
      have p1 : ¬ C.f10 = [] := fun h => by rw [h] at hil; simp at hil
      have e1 : at_.tmod (C.f10.length : Int) = (ix : Int) := by rw [Int.tmod_eq_emod_of_nonneg n0]; exact hix.symm
      clear hix
      obtain ⟨g, v, hA, hg, ⟨cells, hcg⟩, hv, hf, hN⟩ := spoil5 HO.out ix hil
      subst hA
      obtain ⟨l, hl, hN1⟩ := hN x
      have HN := Lib.hid hN1
      have HL := Lib.hid hl
      clear hN hN1 hl
      obtain ⟨m1, m2⟩ : V1.cell? ⟨W2.heap.size, 10, none⟩ = some (.slice (some ⟨g, 0, none⟩) C.f10.length d10) ∧ True := ⟨blk_cell HD.out 10, trivial⟩
      have hne0 : w.heap.size ≠ g := by have := HLT.out; omega
      have hneX : w.heap.size + 1 ≠ g := by have := HLT.out; omega
      have hneD : W2.heap.size ≠ g := by
        intro he
        have h1 := HD.out
        rw [he, hcg] at h1
        cases h1
      replace H0 := Lib.hid (blk_far H0.out (p := ⟨g, ix * 6 + 3, none⟩) hne0 (.int .i64 x))
      replace HX := Lib.hid (blk_far HX.out (p := ⟨g, ix * 6 + 3, none⟩) hneX (.int .i64 x))
      have HD2 := Lib.hid (blk_far HD.out (p := ⟨g, ix * 6 + 3, none⟩) hneD (.int .i64 x))
      replace HB := Lib.hid (HB.out.setCell (p := ⟨g, ix * 6 + 3, none⟩) (by have := HLT.out; show w.heap.size ≤ g; omega) (.int .i64 x))
      obtain ⟨t0, t1, t2, t3, t4, t5, t6, t7, t8, t9, t10, t11⟩ := cfg_cells HD2.out
      clear hne0 hneX hneD hcg hg
      repeat still_step
      refine wpStill_nil ?_
      change wpList _ _ _ _ _ (W2.alloc _).drew
      rw [hV1]
      go_wp2_with fail
      clear t0 t1 t2 t3 t4 t5 t6 t7 t8 t9 t10 t11 HD2
      refine (ck_of _ _ _ _ _ _ _ _ _ _ HN.out rfl rfl rfl HL.out rfl).mono ?_
      have HR2 := Lib.hid (checkN_25 HALL.out.1 HALL.out.2.1 HALL.out.2.2.1 HALL.out.2.2.2.1 : checkN { C with f10 := l } = 0 ∨ 25 ≤ checkN { C with f10 := l } ∧ checkN { C with f10 := l } ≤ 26)
      rintro e u2 ⟨rfl, hb⟩
      replace H0 := Lib.hid (blk_keep hb H0.out)
      replace HX := Lib.hid (blk_keep hb HX.out)
      replace HB := Lib.hid (below_step HB.out hb)
      clear hb
      generalize checkN { C with f10 := l } = q at *
      have y0 := blk_cell HX.out 0
      have y2 := blk_cell HX.out 2
      obtain ⟨k0, k1, k2, k3, k4, k5, k6, k7, k8, k9, k10, k11⟩ := cfg_cells H0.out
      rcases HR2.out with hq | ⟨hq1, hq2⟩
      · subst hq
        go_wp2_with fail
        go_quiet (fail)
        go_wp2_with fail
        refine (check_calls _ _ _ _ _ _ _ _ _ _ C _ ((HR.out.below HB.out).below (pw_below_drewN (Below.refl _ _) _))).mono ?_
        rintro e u3 ⟨rfl, hb⟩
        rw [EC.out]
        replace HB := Lib.hid (below_step (below_step HB.out (pw_below_drewN (Below.refl _ _) _)) hb)
        clear hb
        go_wp2
        go_ret
        exact ⟨rfl, HB.out⟩
      · go_wp2_with fail
        go_quiet (fail)
        have q0 : (q == 0) = false := beq_eq_false_iff_ne.2 (by omega)
        go_wp2_with fail
        refine (check_calls _ _ _ _ _ _ _ _ _ _ C _ ((HR.out.below HB.out).below (pw_below_drewN (Below.refl _ _) _))).mono ?_
        rintro e u3 ⟨rfl, hb⟩
        rw [EC.out]
        replace HB := Lib.hid (below_step (below_step HB.out (pw_below_drewN (Below.refl _ _) _)) hb)
        clear hb
        go_wp2
        go_ret
        exact ⟨rfl, HB.out⟩
    · have hp0 : C.f10 = [] := List.eq_nil_of_length_eq_zero (by omega)
      have p0 : ((C.f10.length : Int) == 0) = true := by rw [hp0]; rfl
      have p2 : decide (0 < (C.f10.length : Int)) = false := decide_eq_false (by omega)
      clear hp0
      go_wp2_with fail
      refine (check_calls B1 B8 B9 B10 B11 d1 d8 d9 d10 d11 C _ (HO.out.in_ _ _ _ _ _ _ _ _ _ _)).mono ?_
      rintro e u2 ⟨rfl, hb⟩
      rw [EC.out]
      replace H0 := Lib.hid (blk_keep hb H0.out)
      replace HX := Lib.hid (blk_keep hb HX.out)
      replace HB := Lib.hid (below_step HB.out hb)
      clear hb m0 m1 m2 m3 m4 m5 m6 m7 m8 m9 m10 m11 y0 y1 y2
      have y0 := blk_cell HX.out 0
      have y2 := blk_cell HX.out 2
      obtain ⟨k0, k1, k2, k3, k4, k5, k6, k7, k8, k9, k10, k11⟩ := cfg_cells H0.out
      go_wp2_with fail
      go_quiet (fail)
      go_wp2_with fail
      refine (check_calls _ _ _ _ _ _ _ _ _ _ C _ ((HR.out.below HB.out).below (pw_below_drewN (Below.refl _ _) _))).mono ?_
      rintro e u3 ⟨rfl, hb⟩
      rw [EC.out]
      replace HB := Lib.hid (below_step (below_step HB.out (pw_below_drewN (Below.refl _ _) _)) hb)
      clear hb
      go_wp2
      go_ret
      exact ⟨rfl, HB.out⟩
  by_cases f6 : f = 6
  · as_aux_lemma =>
    subst f6
    by_cases hp : 0 < C.f11.length
    · go_wp2_with fail
      refine wp_region_still_tail 11 (by kernel_rfl) (by kernel_rfl) ?_
      simp only [List.take_succ_cons, List.take_zero, List.drop_succ_cons, List.drop_zero]
      change wpStill _ _ (W2.alloc (Obj.cells #[.int .i64 C.f0, .slice B1 C.f1.length d1, .int .i64 C.f2, .int .i64 C.f3, .int .i64 C.f4, .int .i64 C.f5, .int .i64 C.f6, .int .i64 C.f7, .slice B8 C.f8.length d8, .slice B9 C.f9.length d9, .slice B10 C.f10.length d10, .slice B11 C.f11.length d11] 29)).drew _ _ _
      clear m0 m1 m2 m3 m4 m5 m6 m7 m8 m9 m10 m11 y0 y1 y2
      have hbd : Below (W2.alloc (Obj.cells #[.int .i64 C.f0, .slice B1 C.f1.length d1, .int .i64 C.f2, .int .i64 C.f3, .int .i64 C.f4, .int .i64 C.f5, .int .i64 C.f6, .int .i64 C.f7, .slice B8 C.f8.length d8, .slice B9 C.f9.length d9, .slice B10 C.f10.length d10, .slice B11 C.f11.length d11] 29)).heap.size (W2.alloc (Obj.cells #[.int .i64 C.f0, .slice B1 C.f1.length d1, .int .i64 C.f2, .int .i64 C.f3, .int .i64 C.f4, .int .i64 C.f5, .int .i64 C.f6, .int .i64 C.f7, .slice B8 C.f8.length d8, .slice B9 C.f9.length d9, .slice B10 C.f10.length d10, .slice B11 C.f11.length d11] 29)) (W2.alloc (Obj.cells #[.int .i64 C.f0, .slice B1 C.f1.length d1, .int .i64 C.f2, .int .i64 C.f3, .int .i64 C.f4, .int .i64 C.f5, .int .i64 C.f6, .int .i64 C.f7, .slice B8 C.f8.length d8, .slice B9 C.f9.length d9, .slice B10 C.f10.length d10, .slice B11 C.f11.length d11] 29)).drew := (Below.refl _ _).drew
      replace HO := Lib.hid (HO.out.below _ _ _ _ _ _ _ _ _ _ hbd)
      replace H0 := Lib.hid (blk_keep hbd H0.out)
      replace HX := Lib.hid (blk_keep hbd HX.out)
      replace HD := Lib.hid (blk_keep hbd HD.out)
      replace HB := Lib.hid (below_step HB.out hbd)
      clear hbd
      generalize hV1 : (W2.alloc (Obj.cells #[.int .i64 C.f0, .slice B1 C.f1.length d1, .int .i64 C.f2, .int .i64 C.f3, .int .i64 C.f4, .int .i64 C.f5, .int .i64 C.f6, .int .i64 C.f7, .slice B8 C.f8.length d8, .slice B9 C.f9.length d9, .slice B10 C.f10.length d10, .slice B11 C.f11.length d11] 29)).drew = V1 at *
      have y2 : V1.cell? ⟨w.heap.size + 1, 2, none⟩ = some (.int .i64 x) := blk_cell HX.out 2
      obtain ⟨ix, hix⟩ : ∃ i : Nat, (i : Int) = at_ % C.f11.length := ⟨(at_ % C.f11.length).toNat, by have := Int.emod_nonneg at_ (show (C.f11.length : Int) ≠ 0 by omega); omega⟩
      have hil : ix < C.f11.length := by have := Int.emod_lt_of_pos at_ (show (0 : Int) < C.f11.length by omega); omega
      have p1 : ¬ C.f11 = [] := fun h => by rw [h] at hil; simp at hil
      have e1 : at_.tmod (C.f11.length : Int) = (ix : Int) := by rw [Int.tmod_eq_emod_of_nonneg n0]; exact hix.symm
      clear hix
      obtain ⟨g, v, hA, hg, ⟨cells, hcg⟩, hv, hf, hN⟩ := spoil6 HO.out ix hil 2 (.inl rfl)
      subst hA
      obtain ⟨l, hl, hN1⟩ := hN x
      have HN := Lib.hid hN1
      have HL := Lib.hid hl
      clear hN hN1 hl
      obtain ⟨m1, m2⟩ : V1.cell? ⟨W2.heap.size, 11, none⟩ = some (.slice (some ⟨g, 0, none⟩) C.f11.length d11) ∧ True := ⟨blk_cell HD.out 11, trivial⟩
      have hne0 : w.heap.size ≠ g := by have := HLT.out; omega
      have hneX : w.heap.size + 1 ≠ g := by have := HLT.out; omega
      have hneD : W2.heap.size ≠ g := by
        intro he
        have h1 := HD.out
        rw [he, hcg] at h1
        cases h1
      replace H0 := Lib.hid (blk_far H0.out (p := ⟨g, ix * 3 + 2, none⟩) hne0 (.int .i64 x))
      replace HX := Lib.hid (blk_far HX.out (p := ⟨g, ix * 3 + 2, none⟩) hneX (.int .i64 x))
      have HD2 := Lib.hid (blk_far HD.out (p := ⟨g, ix * 3 + 2, none⟩) hneD (.int .i64 x))
      replace HB := Lib.hid (HB.out.setCell (p := ⟨g, ix * 3 + 2, none⟩) (by have := HLT.out; show w.heap.size ≤ g; omega) (.int .i64 x))
      obtain ⟨t0, t1, t2, t3, t4, t5, t6, t7, t8, t9, t10, t11⟩ := cfg_cells HD2.out
      clear hne0 hneX hneD hcg hg
      repeat still_step
      refine wpStill_nil ?_
      change wpList _ _ _ _ _ (W2.alloc _).drew
      rw [hV1]
      go_wp2_with fail
      clear t0 t1 t2 t3 t4 t5 t6 t7 t8 t9 t10 t11 HD2
      refine (ck_of _ _ _ _ _ _ _ _ _ _ HN.out rfl rfl rfl rfl HL.out).mono ?_
      have HR2 := Lib.hid (checkN_26 HALL.out.1 HALL.out.2.1 HALL.out.2.2.1 HALL.out.2.2.2.1 HALL.out.2.2.2.2.1 : checkN { C with f11 := l } = 0 ∨ 26 ≤ checkN { C with f11 := l } ∧ checkN { C with f11 := l } ≤ 26)
      rintro e u2 ⟨rfl, hb⟩
      replace H0 := Lib.hid (blk_keep hb H0.out)
      replace HX := Lib.hid (blk_keep hb HX.out)
      replace HB := Lib.hid (below_step HB.out hb)
      clear hb
      generalize checkN { C with f11 := l } = q at *
      have y0 := blk_cell HX.out 0
      have y2 := blk_cell HX.out 2
      obtain ⟨k0, k1, k2, k3, k4, k5, k6, k7, k8, k9, k10, k11⟩ := cfg_cells H0.out
      rcases HR2.out with hq | ⟨hq1, hq2⟩
      · subst hq
        go_wp2_with fail
        go_quiet (fail)
        go_wp2_with fail
        refine (check_calls _ _ _ _ _ _ _ _ _ _ C _ ((HR.out.below HB.out).below (pw_below_drewN (Below.refl _ _) _))).mono ?_
        rintro e u3 ⟨rfl, hb⟩
        rw [EC.out]
        replace HB := Lib.hid (below_step (below_step HB.out (pw_below_drewN (Below.refl _ _) _)) hb)
        clear hb
        go_wp2
        go_ret
        exact ⟨rfl, HB.out⟩
      · go_wp2_with fail
        go_quiet (fail)
        have q0 : (q == 0) = false := beq_eq_false_iff_ne.2 (by omega)
        go_wp2_with fail
        refine (check_calls _ _ _ _ _ _ _ _ _ _ C _ ((HR.out.below HB.out).below (pw_below_drewN (Below.refl _ _) _))).mono ?_
        rintro e u3 ⟨rfl, hb⟩
        rw [EC.out]
        replace HB := Lib.hid (below_step (below_step HB.out (pw_below_drewN (Below.refl _ _) _)) hb)
        clear hb
        go_wp2
        go_ret
        exact ⟨rfl, HB.out⟩
    · have hp0 : C.f11 = [] := List.eq_nil_of_length_eq_zero (by omega)
      have p0 : ((C.f11.length : Int) == 0) = true := by rw [hp0]; rfl
      have p2 : decide (0 < (C.f11.length : Int)) = false := decide_eq_false (by omega)
      clear hp0
      go_wp2_with fail
      refine (check_calls B1 B8 B9 B10 B11 d1 d8 d9 d10 d11 C _ (HO.out.in_ _ _ _ _ _ _ _ _ _ _)).mono ?_
      rintro e u2 ⟨rfl, hb⟩
      rw [EC.out]
      replace H0 := Lib.hid (blk_keep hb H0.out)
      replace HX := Lib.hid (blk_keep hb HX.out)
      replace HB := Lib.hid (below_step HB.out hb)
      clear hb m0 m1 m2 m3 m4 m5 m6 m7 m8 m9 m10 m11 y0 y1 y2
      have y0 := blk_cell HX.out 0
      have y2 := blk_cell HX.out 2
      obtain ⟨k0, k1, k2, k3, k4, k5, k6, k7, k8, k9, k10, k11⟩ := cfg_cells H0.out
      go_wp2_with fail
      go_quiet (fail)
      go_wp2_with fail
      refine (check_calls _ _ _ _ _ _ _ _ _ _ C _ ((HR.out.below HB.out).below (pw_below_drewN (Below.refl _ _) _))).mono ?_
      rintro e u3 ⟨rfl, hb⟩
      rw [EC.out]
      replace HB := Lib.hid (below_step (below_step HB.out (pw_below_drewN (Below.refl _ _) _)) hb)
      clear hb
      go_wp2
      go_ret
      exact ⟨rfl, HB.out⟩
  by_cases f4 : f = 4
  · as_aux_lemma =>
    subst f4
    have hw := windows_rows HALL.out.2.2.2.1
    go_wp2_with fail
    refine wp_region_still_tail 16 (by kernel_rfl) (by kernel_rfl) ?_
    simp only [List.take_succ_cons, List.take_zero, List.drop_succ_cons, List.drop_zero]
    change wpStill _ _ (W2.alloc (Obj.cells #[.int .i64 C.f0, .slice B1 C.f1.length d1, .int .i64 C.f2, .int .i64 C.f3, .int .i64 C.f4, .int .i64 C.f5, .int .i64 C.f6, .int .i64 C.f7, .slice B8 C.f8.length d8, .slice B9 C.f9.length d9, .slice B10 C.f10.length d10, .slice B11 C.f11.length d11] 29)).drew _ _ _
    clear m0 m1 m2 m3 m4 m5 m6 m7 m8 m9 m10 m11 y0 y1 y2
    have hbd : Below (W2.alloc (Obj.cells #[.int .i64 C.f0, .slice B1 C.f1.length d1, .int .i64 C.f2, .int .i64 C.f3, .int .i64 C.f4, .int .i64 C.f5, .int .i64 C.f6, .int .i64 C.f7, .slice B8 C.f8.length d8, .slice B9 C.f9.length d9, .slice B10 C.f10.length d10, .slice B11 C.f11.length d11] 29)).heap.size (W2.alloc (Obj.cells #[.int .i64 C.f0, .slice B1 C.f1.length d1, .int .i64 C.f2, .int .i64 C.f3, .int .i64 C.f4, .int .i64 C.f5, .int .i64 C.f6, .int .i64 C.f7, .slice B8 C.f8.length d8, .slice B9 C.f9.length d9, .slice B10 C.f10.length d10, .slice B11 C.f11.length d11] 29)) (W2.alloc (Obj.cells #[.int .i64 C.f0, .slice B1 C.f1.length d1, .int .i64 C.f2, .int .i64 C.f3, .int .i64 C.f4, .int .i64 C.f5, .int .i64 C.f6, .int .i64 C.f7, .slice B8 C.f8.length d8, .slice B9 C.f9.length d9, .slice B10 C.f10.length d10, .slice B11 C.f11.length d11] 29)).drew := (Below.refl _ _).drew
    replace HO := Lib.hid (HO.out.below _ _ _ _ _ _ _ _ _ _ hbd)
    replace H0 := Lib.hid (blk_keep hbd H0.out)
    replace HX := Lib.hid (blk_keep hbd HX.out)
    replace HD := Lib.hid (blk_keep hbd HD.out)
    replace HB := Lib.hid (below_step HB.out hbd)
    clear hbd
    generalize hV1 : (W2.alloc (Obj.cells #[.int .i64 C.f0, .slice B1 C.f1.length d1, .int .i64 C.f2, .int .i64 C.f3, .int .i64 C.f4, .int .i64 C.f5, .int .i64 C.f6, .int .i64 C.f7, .slice B8 C.f8.length d8, .slice B9 C.f9.length d9, .slice B10 C.f10.length d10, .slice B11 C.f11.length d11] 29)).drew = V1 at *
    have y2 : V1.cell? ⟨w.heap.size + 1, 2, none⟩ = some (.int .i64 x) := blk_cell HX.out 2
    obtain ⟨ix, hix⟩ : ∃ i : Nat, (i : Int) = at_ % C.f0 := ⟨(at_ % C.f0).toNat, by have := Int.emod_nonneg at_ (show C.f0 ≠ 0 by omega); omega⟩
    obtain ⟨jx, hjx⟩ : ∃ i : Nat, (i : Int) = at_ / 16 % C.f0 := ⟨(at_ / 16 % C.f0).toNat, by have := Int.emod_nonneg (at_ / 16) (show C.f0 ≠ 0 by omega); omega⟩
    have hi0 : (ix : Int) < C.f0 := by rw [hix]; exact Int.emod_lt_of_pos _ (by omega)
    have hj0 : (jx : Int) < C.f0 := by rw [hjx]; exact Int.emod_lt_of_pos _ (by omega)
    have hil : ix < C.f9.length := by omega
    have hjl : jx < (C.f9.getD ix []).length := by have := hw.2 ix hil; omega
    have e1 : at_.tmod C.f0 = (ix : Int) := by rw [Int.tmod_eq_emod_of_nonneg n0]; exact hix.symm
    have e2 : (at_.tdiv 16).tmod C.f0 = (jx : Int) := by rw [Int.tdiv_eq_ediv_of_nonneg n0, Int.tmod_eq_emod_of_nonneg (by omega)]; exact hjx.symm
    have e3 : IntKind.i64.wrap (at_.tdiv 16) = at_.tdiv 16 := by rw [Int.tdiv_eq_ediv_of_nonneg n0]; exact IntWalk.i64_in _ ⟨by omega, by omega⟩
    have p1 : ¬ C.f0 = 0 := by omega
    clear hix hjx hw hi0 hj0
    obtain ⟨g9, g, cr, hA, hv9, hcr, hg, ⟨cells, hcg⟩, ⟨v, hv⟩, hf, hN⟩ := spoil4 HO.out ix jx hil hjl
    subst hA
    obtain ⟨l, hl, hN1⟩ := hN x
    have HN := Lib.hid hN1
    have HL := Lib.hid hl
    generalize (C.f9.getD ix []).length = rl at *
    clear hN hN1 hl
    obtain ⟨m1, m2⟩ : V1.cell? ⟨W2.heap.size, 9, none⟩ = some (.slice (some ⟨g9, 0, none⟩) C.f9.length d9) ∧ V1.cell? ⟨W2.heap.size, 0, none⟩ = some (.int .i64 C.f0) := ⟨blk_cell HD.out 9, blk_cell HD.out 0⟩
    have hne0 : w.heap.size ≠ g := by have := HLT.out; omega
    have hneX : w.heap.size + 1 ≠ g := by have := HLT.out; omega
    have hneD : W2.heap.size ≠ g := by
      intro he
      have h1 := HD.out
      rw [he, hcg] at h1
      cases h1
    replace H0 := Lib.hid (blk_far H0.out (p := ⟨g, jx, none⟩) hne0 (.int .i64 x))
    replace HX := Lib.hid (blk_far HX.out (p := ⟨g, jx, none⟩) hneX (.int .i64 x))
    have HD2 := Lib.hid (blk_far HD.out (p := ⟨g, jx, none⟩) hneD (.int .i64 x))
    replace HB := Lib.hid (HB.out.setCell (p := ⟨g, jx, none⟩) (by have := HLT.out; show w.heap.size ≤ g; omega) (.int .i64 x))
    obtain ⟨t0, t1, t2, t3, t4, t5, t6, t7, t8, t9, t10, t11⟩ := cfg_cells HD2.out
    clear hne0 hneX hneD hcg hg
    repeat still_step
    refine wpStill_nil ?_
    change wpList _ _ _ _ _ (W2.alloc _).drew
    rw [hV1]
    go_wp2_with fail
    clear t0 t1 t2 t3 t4 t5 t6 t7 t8 t9 t10 t11 HD2
    refine (ck_of _ _ _ _ _ _ _ _ _ _ HN.out rfl rfl HL.out rfl rfl).mono ?_
    have HR2 := Lib.hid (checkN_24 HALL.out.1 HALL.out.2.1 HALL.out.2.2.1 : checkN { C with f9 := l } = 0 ∨ 24 ≤ checkN { C with f9 := l } ∧ checkN { C with f9 := l } ≤ 26)
    rintro e u2 ⟨rfl, hb⟩
    replace H0 := Lib.hid (blk_keep hb H0.out)
    replace HX := Lib.hid (blk_keep hb HX.out)
    replace HB := Lib.hid (below_step HB.out hb)
    clear hb
    generalize checkN { C with f9 := l } = q at *
    have y0 := blk_cell HX.out 0
    have y2 := blk_cell HX.out 2
    obtain ⟨k0, k1, k2, k3, k4, k5, k6, k7, k8, k9, k10, k11⟩ := cfg_cells H0.out
    rcases HR2.out with hq | ⟨hq1, hq2⟩
    · subst hq
      go_wp2_with fail
      go_quiet (fail)
      go_wp2_with fail
      refine (check_calls _ _ _ _ _ _ _ _ _ _ C _ ((HR.out.below HB.out).below (pw_below_drewN (Below.refl _ _) _))).mono ?_
      rintro e u3 ⟨rfl, hb⟩
      rw [EC.out]
      replace HB := Lib.hid (below_step (below_step HB.out (pw_below_drewN (Below.refl _ _) _)) hb)
      clear hb
      go_wp2
      go_ret
      exact ⟨rfl, HB.out⟩
    · go_wp2_with fail
      go_quiet (fail)
      have q0 : (q == 0) = false := beq_eq_false_iff_ne.2 (by omega)
      go_wp2_with fail
      refine (check_calls _ _ _ _ _ _ _ _ _ _ C _ ((HR.out.below HB.out).below (pw_below_drewN (Below.refl _ _) _))).mono ?_
      rintro e u3 ⟨rfl, hb⟩
      rw [EC.out]
      replace HB := Lib.hid (below_step (below_step HB.out (pw_below_drewN (Below.refl _ _) _)) hb)
      clear hb
      go_wp2
      go_ret
      exact ⟨rfl, HB.out⟩
  by_cases f2 : f = 2
  · as_aux_lemma =>
    subst f2
    have hba : Below W2.heap.size W2 (W2.alloc (Obj.cells #[.int .i64 C.f0, .slice B1 C.f1.length d1, .int .i64 C.f2, .int .i64 C.f3, .int .i64 C.f4, .int .i64 C.f5, .int .i64 x, .int .i64 C.f7, .slice B8 C.f8.length d8, .slice B9 C.f9.length d9, .slice B10 C.f10.length d10, .slice B11 C.f11.length d11] 29)) := (Below.refl _ _).alloc (Nat.le_refl _) _
    replace HO := Lib.hid (HO2.out.below _ _ _ _ _ _ _ _ _ _ hba)
    replace H0 := Lib.hid (blk_keep hba H02.out)
    replace HX := Lib.hid (blk_keep hba HX2.out)
    replace HB := Lib.hid (below_step HB2.out hba)
    replace HD := Lib.hid (blk_new W2 (Obj.cells #[.int .i64 C.f0, .slice B1 C.f1.length d1, .int .i64 C.f2, .int .i64 C.f3, .int .i64 C.f4, .int .i64 C.f5, .int .i64 x, .int .i64 C.f7, .slice B8 C.f8.length d8, .slice B9 C.f9.length d9, .slice B10 C.f10.length d10, .slice B11 C.f11.length d11] 29))
    clear hba
    obtain ⟨t0, t1, t2, t3, t4, t5, t6, t7, t8, t9, t10, t11⟩ := cfg_cells HD.out
    go_wp2_with fail
    clear t0 t1 t2 t3 t4 t5 t6 t7 t8 t9 t10 t11 HD m0 m1 m2 m3 m4 m5 m6 m7 m8 m9 m10 m11 y0 y1 y2
    have HR2 := Lib.hid (spoil_rejoin HALL.out.1 HALL.out.2.1 x)
    have HI := Lib.hid (show CfgIn (W2.alloc (Obj.cells #[.int .i64 C.f0, .slice B1 C.f1.length d1, .int .i64 C.f2, .int .i64 C.f3, .int .i64 C.f4, .int .i64 C.f5, .int .i64 x, .int .i64 C.f7, .slice B8 C.f8.length d8, .slice B9 C.f9.length d9, .slice B10 C.f10.length d10, .slice B11 C.f11.length d11] 29)) { C with f6 := x } B1 B8 B9 B10 B11 d1 d8 d9 d10 d11 from HO.out.in_ _ _ _ _ _ _ _ _ _ _)
    refine (ck_of B1 B8 B9 B10 B11 d1 d8 d9 d10 d11 HI.out rfl rfl rfl rfl rfl).mono ?_
    rintro e u2 ⟨rfl, hb⟩
    replace H0 := Lib.hid (blk_keep hb H0.out)
    replace HX := Lib.hid (blk_keep hb HX.out)
    replace HB := Lib.hid (below_step HB.out hb)
    clear hb
    generalize checkN { C with f6 := x } = q at *
    have y0 := blk_cell HX.out 0
    have y2 := blk_cell HX.out 2
    obtain ⟨k0, k1, k2, k3, k4, k5, k6, k7, k8, k9, k10, k11⟩ := cfg_cells H0.out
    rcases HR2.out with ⟨⟨x1, x2⟩, hq | ⟨hq1, hq2⟩⟩ | ⟨x1 | x2, hq⟩
    · subst hq
      have d1' : decide (x < 1) = false := decide_eq_false (by omega)
      have d2' : decide (8 < x) = false := decide_eq_false (by omega)
      clear x1 x2
      go_wp2_with fail
      go_quiet (fail)
      go_wp2_with fail
      refine (check_calls _ _ _ _ _ _ _ _ _ _ C _ ((HR.out.below HB.out).below (pw_below_drewN (Below.refl _ _) _))).mono ?_
      rintro e u3 ⟨rfl, hb⟩
      rw [EC.out]
      replace HB := Lib.hid (below_step (below_step HB.out (pw_below_drewN (Below.refl _ _) _)) hb)
      clear hb
      go_wp2
      go_ret
      exact ⟨rfl, HB.out⟩
    · have q1 : (q == 22) = false := beq_eq_false_iff_ne.2 (by omega)
      have d1' : decide (x < 1) = false := decide_eq_false (by omega)
      have d2' : decide (8 < x) = false := decide_eq_false (by omega)
      clear x1 x2
      go_wp2_with fail
      go_quiet (fail)
      have q0 : (q == 0) = false := beq_eq_false_iff_ne.2 (by omega)
      go_wp2_with fail
      refine (check_calls _ _ _ _ _ _ _ _ _ _ C _ ((HR.out.below HB.out).below (pw_below_drewN (Below.refl _ _) _))).mono ?_
      rintro e u3 ⟨rfl, hb⟩
      rw [EC.out]
      replace HB := Lib.hid (below_step (below_step HB.out (pw_below_drewN (Below.refl _ _) _)) hb)
      clear hb
      go_wp2
      go_ret
      exact ⟨rfl, HB.out⟩
    · subst hq
      have d1' : decide (x < 1) = true := decide_eq_true x1
      clear x1
      go_wp2_with fail
      go_quiet (fail)
      go_wp2_with fail
      refine (check_calls _ _ _ _ _ _ _ _ _ _ C _ ((HR.out.below HB.out).below (pw_below_drewN (Below.refl _ _) _))).mono ?_
      rintro e u3 ⟨rfl, hb⟩
      rw [EC.out]
      replace HB := Lib.hid (below_step (below_step HB.out (pw_below_drewN (Below.refl _ _) _)) hb)
      clear hb
      go_wp2
      go_ret
      exact ⟨rfl, HB.out⟩
    · subst hq
      have d1' : decide (x < 1) = false := decide_eq_false (by omega)
      have d2' : decide (8 < x) = true := decide_eq_true x2
      clear x2
      go_wp2_with fail
      go_quiet (fail)
      go_wp2_with fail
      refine (check_calls _ _ _ _ _ _ _ _ _ _ C _ ((HR.out.below HB.out).below (pw_below_drewN (Below.refl _ _) _))).mono ?_
      rintro e u3 ⟨rfl, hb⟩
      rw [EC.out]
      replace HB := Lib.hid (below_step (below_step HB.out (pw_below_drewN (Below.refl _ _) _)) hb)
      clear hb
      go_wp2
      go_ret
      exact ⟨rfl, HB.out⟩
  by_cases f1 : f = 1
  · as_aux_lemma =>
    subst f1
    have hba : Below W2.heap.size W2 (W2.alloc (Obj.cells #[.int .i64 C.f0, .slice B1 C.f1.length d1, .int .i64 C.f2, .int .i64 C.f3, .int .i64 x, .int .i64 C.f5, .int .i64 C.f6, .int .i64 C.f7, .slice B8 C.f8.length d8, .slice B9 C.f9.length d9, .slice B10 C.f10.length d10, .slice B11 C.f11.length d11] 29)) := (Below.refl _ _).alloc (Nat.le_refl _) _
    replace HO := Lib.hid (HO2.out.below _ _ _ _ _ _ _ _ _ _ hba)
    replace H0 := Lib.hid (blk_keep hba H02.out)
    replace HX := Lib.hid (blk_keep hba HX2.out)
    replace HB := Lib.hid (below_step HB2.out hba)
    replace HD := Lib.hid (blk_new W2 (Obj.cells #[.int .i64 C.f0, .slice B1 C.f1.length d1, .int .i64 C.f2, .int .i64 C.f3, .int .i64 x, .int .i64 C.f5, .int .i64 C.f6, .int .i64 C.f7, .slice B8 C.f8.length d8, .slice B9 C.f9.length d9, .slice B10 C.f10.length d10, .slice B11 C.f11.length d11] 29))
    clear hba
    obtain ⟨t0, t1, t2, t3, t4, t5, t6, t7, t8, t9, t10, t11⟩ := cfg_cells HD.out
    go_wp2_with fail
    clear t0 t1 t2 t3 t4 t5 t6 t7 t8 t9 t10 t11 HD m0 m1 m2 m3 m4 m5 m6 m7 m8 m9 m10 m11 y0 y1 y2
    have HR2 := Lib.hid (spoil_margin HALL.out.1 HALL.out.2.1 x)
    have HI := Lib.hid (show CfgIn (W2.alloc (Obj.cells #[.int .i64 C.f0, .slice B1 C.f1.length d1, .int .i64 C.f2, .int .i64 C.f3, .int .i64 x, .int .i64 C.f5, .int .i64 C.f6, .int .i64 C.f7, .slice B8 C.f8.length d8, .slice B9 C.f9.length d9, .slice B10 C.f10.length d10, .slice B11 C.f11.length d11] 29)) { C with f4 := x } B1 B8 B9 B10 B11 d1 d8 d9 d10 d11 from HO.out.in_ _ _ _ _ _ _ _ _ _ _)
    refine (ck_of B1 B8 B9 B10 B11 d1 d8 d9 d10 d11 HI.out rfl rfl rfl rfl rfl).mono ?_
    rintro e u2 ⟨rfl, hb⟩
    replace H0 := Lib.hid (blk_keep hb H0.out)
    replace HX := Lib.hid (blk_keep hb HX.out)
    replace HB := Lib.hid (below_step HB.out hb)
    clear hb
    generalize checkN { C with f4 := x } = q at *
    obtain ⟨p, hp⟩ : ∃ p, p = precW C := ⟨_, rfl⟩
    have HR3 := HR2.out
    rw [← hp] at HR3
    have EP := Lib.hid hp
    obtain ⟨⟨p0, p1⟩, ⟨c0', c1'⟩, HR4⟩ := HR3
    have HR5 := Lib.hid HR4
    have w1 : IntKind.i64.wrap (2 * p) = 2 * p := IntWalk.i64_in _ ⟨by omega, by omega⟩
    have w2 : IntKind.i64.wrap (2 * p + C.f3) = 2 * p + C.f3 := IntWalk.i64_in _ ⟨by omega, by omega⟩
    clear hp HR4 HR2
    have y0 : u2.cell? ⟨w.heap.size + 1, 0, none⟩ = some (.int .i64 1) := blk_cell HX.out 0
    have y2 : u2.cell? ⟨w.heap.size + 1, 2, none⟩ = some (.int .i64 x) := blk_cell HX.out 2
    obtain ⟨k0, k1, k2, k3, k4, k5, k6, k7, k8, k9, k10, k11⟩ := cfg_cells H0.out
    rcases HR5.out with ⟨x1, x2, hq⟩ | ⟨x1, hq⟩ | ⟨x1, x2, hq⟩
    · have d1' : decide (x < 2 * p + C.f3) = false := decide_eq_false (by omega)
      have d2' : decide (16777216 < x) = false := decide_eq_false (by omega)
      clear x1 x2 p0 p1 c0' c1' HR5
      have HQ := Lib.hid hq
      clear hq
      go_wp2_with fail
      apply region_z (N := 41) (ds := []) #[false, false, false, false, false, false, false, false, false, false, false, false, false, false, false, false, false, false, false, false, false, false, false, false, false, false, false, false, false, false, false, false, false, false, false, false, false, false, false, false, false]
      · kernel_rfl
      · rfl
      · rfl
      · intro Wd hS
        refine pure_ (i := 0) (N := some 138) (v := ?_) (a' := ?_) #[true, false, false, false, false, false, false, false, false, false, false, false, false, false, false, false, false, false, false, false, false, false, false, false, false, false, false, false, false, false, false, false, false, false, false, false, false, false, false, false, false] rfl rfl (by kernel_rfl) (fun _ _ _ h => by cases h.1) (Or.inl ⟨by rfl, ?_⟩) ?_ ?_
        rotate_left
        · intro w'
          go_simp
          with_reducible rfl
        rotate_left
        · simp only [Act.put, List.setIfInBounds_toArray, List.set_cons_zero, List.set_cons_succ]
          rfl
        refine take_ (i := 1) (N := some 139) (v := ?_) (a' := ?_) #[true, true, false, false, false, false, false, false, false, false, false, false, false, false, false, false, false, false, false, false, false, false, false, false, false, false, false, false, false, false, false, false, false, false, false, false, false, false, false, false, false] rfl rfl (by kernel_rfl) (fun _ _ _ h => by cases h.1) (Or.inl ⟨by rfl, ?_⟩) hS ?_ ?_
        rotate_left
        · intro w' hb
          have s0 := hb.cell y0
          go_simp
          with_reducible rfl
        rotate_left
        · simp only [Act.put, List.setIfInBounds_toArray, List.set_cons_zero, List.set_cons_succ]
          rfl
        refine pure_ (i := 2) (N := some 140) (v := ?_) (a' := ?_) #[true, true, true, false, false, false, false, false, false, false, false, false, false, false, false, false, false, false, false, false, false, false, false, false, false, false, false, false, false, false, false, false, false, false, false, false, false, false, false, false, false] rfl rfl (by kernel_rfl) (fun _ _ _ h => by cases h.1) (Or.inl ⟨by rfl, ?_⟩) ?_ ?_
        rotate_left
        · intro w'
          go_simp
          with_reducible rfl
        rotate_left
        · simp only [Act.put, List.setIfInBounds_toArray, List.set_cons_zero, List.set_cons_succ]
          rfl
        refine pure_ (i := 3) (N := some 141) (v := ?_) (a' := ?_) #[true, true, true, true, false, false, false, false, false, false, false, false, false, false, false, false, false, false, false, false, false, false, false, false, false, false, false, false, false, false, false, false, false, false, false, false, false, false, false, false, false] rfl rfl (by kernel_rfl) (fun _ _ _ h => by cases h.1) (Or.inl ⟨by rfl, ?_⟩) ?_ ?_
        rotate_left
        · intro w'
          go_simp
          with_reducible rfl
        rotate_left
        · simp only [Act.put, List.setIfInBounds_toArray, List.set_cons_zero, List.set_cons_succ]
          rfl
        refine pure_ (i := 4) (N := some 142) (v := ?_) (a' := ?_) #[true, true, true, true, true, false, false, false, false, false, false, false, false, false, false, false, false, false, false, false, false, false, false, false, false, false, false, false, false, false, false, false, false, false, false, false, false, false, false, false, false] rfl rfl (by kernel_rfl) (fun _ _ _ h => by cases h.1) (Or.inl ⟨by rfl, ?_⟩) ?_ ?_
        rotate_left
        · intro w'
          go_simp
          with_reducible rfl
        rotate_left
        · simp only [Act.put, List.setIfInBounds_toArray, List.set_cons_zero, List.set_cons_succ]
          rfl
        refine take_ (i := 5) (N := some 143) (v := ?_) (a' := ?_) #[true, true, true, true, true, true, false, false, false, false, false, false, false, false, false, false, false, false, false, false, false, false, false, false, false, false, false, false, false, false, false, false, false, false, false, false, false, false, false, false, false] rfl rfl (by kernel_rfl) (fun _ _ _ h => by cases h.1) (Or.inl ⟨by rfl, ?_⟩) hS ?_ ?_
        rotate_left
        · intro w' hb
          have s0 := hb.cell y2
          go_simp
          with_reducible rfl
        rotate_left
        · simp only [Act.put, List.setIfInBounds_toArray, List.set_cons_zero, List.set_cons_succ]
          rfl
        refine take_ (i := 6) (N := some 144) (v := ?_) (a' := ?_) #[true, true, true, true, true, true, true, false, false, false, false, false, false, false, false, false, false, false, false, false, false, false, false, false, false, false, false, false, false, false, false, false, false, false, false, false, false, false, false, false, false] rfl rfl (by kernel_rfl) (fun _ _ _ h => by cases h.1) (Or.inl ⟨by rfl, ?_⟩) hS ?_ ?_
        rotate_left
        · intro w' hb
          have s0 := hb.cell k0
          have s1 := hb.cell k1
          have s2 := hb.cell k2
          have s3 := hb.cell k3
          have s4 := hb.cell k4
          have s5 := hb.cell k5
          have s6 := hb.cell k6
          have s7 := hb.cell k7
          have s8 := hb.cell k8
          have s9 := hb.cell k9
          have s10 := hb.cell k10
          have s11 := hb.cell k11
          go_simp
          with_reducible rfl
        rotate_left
        · simp only [Act.put, List.setIfInBounds_toArray, List.set_cons_zero, List.set_cons_succ]
          rfl
        refine pure_ (i := 9) (N := some 147) (v := ?_) (a' := ?_) #[true, true, true, true, true, true, true, false, false, true, false, false, false, false, false, false, false, false, false, false, false, false, false, false, false, false, false, false, false, false, false, false, false, false, false, false, false, false, false, false, false] rfl rfl (by kernel_rfl) (fun _ _ _ h => by cases h.1) (Or.inl ⟨by rfl, ?_⟩) ?_ ?_
        rotate_left
        · intro w'
          go_simp
          with_reducible rfl
        rotate_left
        · simp only [Act.put, List.setIfInBounds_toArray, List.set_cons_zero, List.set_cons_succ]
          rfl
        refine take_ (i := 10) (N := some 148) (v := ?_) (a' := ?_) #[true, true, true, true, true, true, true, false, false, true, true, false, false, false, false, false, false, false, false, false, false, false, false, false, false, false, false, false, false, false, false, false, false, false, false, false, false, false, false, false, false] rfl rfl (by kernel_rfl) (fun _ _ _ h => by cases h.1) (Or.inl ⟨by rfl, ?_⟩) hS ?_ ?_
        rotate_left
        · intro w' hb
          have s0 := hb.cell k3
          go_simp
          with_reducible rfl
        rotate_left
        · simp only [Act.put, List.setIfInBounds_toArray, List.set_cons_zero, List.set_cons_succ]
          rfl
        refine one_ (i := 7) (N := some 145) #[true, true, true, true, true, true, true, true, false, true, true, false, false, false, false, false, false, false, false, false, false, false, false, false, false, false, false, false, false, false, false, false, false, false, false, false, false, false, false, false, false] rfl rfl (by kernel_rfl) (by simp) (fun K hK => ?_)
        go_simp
        refine (prec_calls _ _ _ _ _ _ _ _ _ _ C _).mono ?_
        rintro e u7 ⟨rfl, hb⟩
        rw [← EP.out]
        have hS7 : Bz u2 u7 := Below.trans hS (hb.mono hS.size)
        refine hK.out _ _ hS7 (fun _ => ?_)
        clear hK K hb hS
        have hS := hS7
        refine pure_ (i := 8) (N := some 146) (v := ?_) (a' := ?_) #[true, true, true, true, true, true, true, true, true, true, true, false, false, false, false, false, false, false, false, false, false, false, false, false, false, false, false, false, false, false, false, false, false, false, false, false, false, false, false, false, false] rfl rfl (by kernel_rfl) (fun _ _ _ h => by cases h.1) (Or.inl ⟨by rfl, ?_⟩) ?_ ?_
        rotate_left
        · intro w'
          go_simp
          with_reducible rfl
        rotate_left
        · simp only [Act.put, List.setIfInBounds_toArray, List.set_cons_zero, List.set_cons_succ]
          rfl
        refine pure_ (i := 11) (N := some 149) (v := ?_) (a' := ?_) #[true, true, true, true, true, true, true, true, true, true, true, true, false, false, false, false, false, false, false, false, false, false, false, false, false, false, false, false, false, false, false, false, false, false, false, false, false, false, false, false, false] rfl rfl (by kernel_rfl) (fun _ _ _ h => by cases h.1) (Or.inl ⟨by rfl, ?_⟩) ?_ ?_
        rotate_left
        · intro w'
          go_simp
          with_reducible rfl
        rotate_left
        · simp only [Act.put, List.setIfInBounds_toArray, List.set_cons_zero, List.set_cons_succ]
          rfl
        refine pure_ (i := 12) (N := some 150) (v := ?_) (a' := ?_) #[true, true, true, true, true, true, true, true, true, true, true, true, true, false, false, false, false, false, false, false, false, false, false, false, false, false, false, false, false, false, false, false, false, false, false, false, false, false, false, false, false] rfl rfl (by kernel_rfl) (fun _ _ _ h => by cases h.1) (Or.inl ⟨by rfl, ?_⟩) ?_ ?_
        rotate_left
        · intro w'
          go_simp
          with_reducible rfl
        rotate_left
        · simp only [Act.put, List.setIfInBounds_toArray, List.set_cons_zero, List.set_cons_succ]
          rfl
        refine pure_ (i := 13) (N := some 151) (v := ?_) (a' := ?_) #[true, true, true, true, true, true, true, true, true, true, true, true, true, true, false, false, false, false, false, false, false, false, false, false, false, false, false, false, false, false, false, false, false, false, false, false, false, false, false, false, false] rfl rfl (by kernel_rfl) (fun _ _ _ h => by cases h.1) (Or.inl ⟨by rfl, ?_⟩) ?_ ?_
        rotate_left
        · intro w'
          go_simp
          with_reducible rfl
        rotate_left
        · simp only [Act.put, List.setIfInBounds_toArray, List.set_cons_zero, List.set_cons_succ]
          rfl
        refine pure_ (i := 14) (N := some 152) (v := ?_) (a' := ?_) #[true, true, true, true, true, true, true, true, true, true, true, true, true, true, true, false, false, false, false, false, false, false, false, false, false, false, false, false, false, false, false, false, false, false, false, false, false, false, false, false, false] rfl rfl (by kernel_rfl) (fun _ _ _ h => by cases h.1) (Or.inl ⟨by rfl, ?_⟩) ?_ ?_
        rotate_left
        · intro w'
          go_simp
          with_reducible rfl
        rotate_left
        · simp only [Act.put, List.setIfInBounds_toArray, List.set_cons_zero, List.set_cons_succ]
          rfl
        refine take_ (i := 15) (N := some 153) (v := ?_) (a' := ?_) #[true, true, true, true, true, true, true, true, true, true, true, true, true, true, true, true, false, false, false, false, false, false, false, false, false, false, false, false, false, false, false, false, false, false, false, false, false, false, false, false, false] rfl rfl (by kernel_rfl) (fun _ _ _ h => by cases h.1) (Or.inl ⟨by rfl, ?_⟩) hS ?_ ?_
        rotate_left
        · intro w' hb
          have s0 := hb.cell y2
          go_simp
          with_reducible rfl
        rotate_left
        · simp only [Act.put, List.setIfInBounds_toArray, List.set_cons_zero, List.set_cons_succ]
          rfl
        refine pure_ (i := 16) (N := some 154) (v := ?_) (a' := ?_) #[true, true, true, true, true, true, true, true, true, true, true, true, true, true, true, true, true, false, false, false, false, false, false, false, false, false, false, false, false, false, false, false, false, false, false, false, false, false, false, false, false] rfl rfl (by kernel_rfl) (fun _ _ _ h => by cases h.1) (Or.inl ⟨by rfl, ?_⟩) ?_ ?_
        rotate_left
        · intro w'
          go_simp
          with_reducible rfl
        rotate_left
        · simp only [Act.put, List.setIfInBounds_toArray, List.set_cons_zero, List.set_cons_succ]
          rfl
        refine pure_ (i := 17) (N := some 155) (v := ?_) (a' := ?_) #[true, true, true, true, true, true, true, true, true, true, true, true, true, true, true, true, true, true, false, false, false, false, false, false, false, false, false, false, false, false, false, false, false, false, false, false, false, false, false, false, false] rfl rfl (by kernel_rfl) (fun _ _ _ h => by cases h.1) (Or.inl ⟨by rfl, ?_⟩) ?_ ?_
        rotate_left
        · intro w'
          go_simp
          with_reducible rfl
        rotate_left
        · simp only [Act.put, List.setIfInBounds_toArray, List.set_cons_zero, List.set_cons_succ]
          rfl
        refine pure_ (i := 18) (N := some 156) (v := ?_) (a' := ?_) #[true, true, true, true, true, true, true, true, true, true, true, true, true, true, true, true, true, true, true, false, false, false, false, false, false, false, false, false, false, false, false, false, false, false, false, false, false, false, false, false, false] rfl rfl (by kernel_rfl) (fun _ _ _ h => by cases h.1) (Or.inl ⟨by rfl, ?_⟩) ?_ ?_
        rotate_left
        · intro w'
          go_simp
          with_reducible rfl
        rotate_left
        · simp only [Act.put, List.setIfInBounds_toArray, List.set_cons_zero, List.set_cons_succ]
          rfl
        refine pure_ (i := 19) (N := some 157) (v := ?_) (a' := ?_) #[true, true, true, true, true, true, true, true, true, true, true, true, true, true, true, true, true, true, true, true, false, false, false, false, false, false, false, false, false, false, false, false, false, false, false, false, false, false, false, false, false] rfl rfl (by kernel_rfl) (fun _ _ _ h => by cases h.1) (Or.inl ⟨by rfl, ?_⟩) ?_ ?_
        rotate_left
        · intro w'
          go_simp
          with_reducible rfl
        rotate_left
        · simp only [Act.put, List.setIfInBounds_toArray, List.set_cons_zero, List.set_cons_succ]
          rfl
        refine pure_ (i := 20) (N := some 158) (v := undef) (a' := ?_) #[true, true, true, true, true, true, true, true, true, true, true, true, true, true, true, true, true, true, true, true, true, false, false, false, false, false, false, false, false, false, false, false, false, false, false, false, false, false, false, false, false] rfl rfl (by kernel_rfl) (fun _ _ _ h => by cases h.1) (Or.inr ⟨by rfl, rfl⟩) ?_ ?_
        rotate_left
        · simp only [Act.put, List.setIfInBounds_toArray, List.set_cons_zero, List.set_cons_succ]
          rfl
        refine pure_ (i := 21) (N := some 159) (v := undef) (a' := ?_) #[true, true, true, true, true, true, true, true, true, true, true, true, true, true, true, true, true, true, true, true, true, true, false, false, false, false, false, false, false, false, false, false, false, false, false, false, false, false, false, false, false] rfl rfl (by kernel_rfl) (fun _ _ _ h => by cases h.1) (Or.inr ⟨by rfl, rfl⟩) ?_ ?_
        rotate_left
        · simp only [Act.put, List.setIfInBounds_toArray, List.set_cons_zero, List.set_cons_succ]
          rfl
        refine pure_ (i := 22) (N := some 160) (v := ?_) (a' := ?_) #[true, true, true, true, true, true, true, true, true, true, true, true, true, true, true, true, true, true, true, true, true, true, true, false, false, false, false, false, false, false, false, false, false, false, false, false, false, false, false, false, false] rfl rfl (by kernel_rfl) (fun _ _ _ h => by cases h.1) (Or.inl ⟨by rfl, ?_⟩) ?_ ?_
        rotate_left
        · intro w'
          go_simp
          with_reducible rfl
        rotate_left
        · simp only [Act.put, List.setIfInBounds_toArray, List.set_cons_zero, List.set_cons_succ]
          rfl
        refine pure_ (i := 23) (N := some 161) (v := ?_) (a' := ?_) #[true, true, true, true, true, true, true, true, true, true, true, true, true, true, true, true, true, true, true, true, true, true, true, true, false, false, false, false, false, false, false, false, false, false, false, false, false, false, false, false, false] rfl rfl (by kernel_rfl) (fun _ _ _ h => by cases h.1) (Or.inl ⟨by rfl, ?_⟩) ?_ ?_
        rotate_left
        · intro w'
          go_simp
          with_reducible rfl
        rotate_left
        · simp only [Act.put, List.setIfInBounds_toArray, List.set_cons_zero, List.set_cons_succ]
          rfl
        refine pure_ (i := 24) (N := some 162) (v := ?_) (a' := ?_) #[true, true, true, true, true, true, true, true, true, true, true, true, true, true, true, true, true, true, true, true, true, true, true, true, true, false, false, false, false, false, false, false, false, false, false, false, false, false, false, false, false] rfl rfl (by kernel_rfl) (fun _ _ _ h => by cases h.1) (Or.inl ⟨by rfl, ?_⟩) ?_ ?_
        rotate_left
        · intro w'
          go_simp
          with_reducible rfl
        rotate_left
        · simp only [Act.put, List.setIfInBounds_toArray, List.set_cons_zero, List.set_cons_succ]
          rfl
        refine take_ (i := 25) (N := some 163) (v := ?_) (a' := ?_) #[true, true, true, true, true, true, true, true, true, true, true, true, true, true, true, true, true, true, true, true, true, true, true, true, true, true, false, false, false, false, false, false, false, false, false, false, false, false, false, false, false] rfl rfl (by kernel_rfl) (fun _ _ _ h => by cases h.1) (Or.inl ⟨by rfl, ?_⟩) hS ?_ ?_
        rotate_left
        · intro w' hb
          have s0 := hb.cell y0
          go_simp
          with_reducible rfl
        rotate_left
        · simp only [Act.put, List.setIfInBounds_toArray, List.set_cons_zero, List.set_cons_succ]
          rfl
        refine pure_ (i := 26) (N := some 164) (v := ?_) (a' := ?_) #[true, true, true, true, true, true, true, true, true, true, true, true, true, true, true, true, true, true, true, true, true, true, true, true, true, true, true, false, false, false, false, false, false, false, false, false, false, false, false, false, false] rfl rfl (by kernel_rfl) (fun _ _ _ h => by cases h.1) (Or.inl ⟨by rfl, ?_⟩) ?_ ?_
        rotate_left
        · intro w'
          go_simp
          with_reducible rfl
        rotate_left
        · simp only [Act.put, List.setIfInBounds_toArray, List.set_cons_zero, List.set_cons_succ]
          rfl
        refine pure_ (i := 27) (N := some 165) (v := ?_) (a' := ?_) #[true, true, true, true, true, true, true, true, true, true, true, true, true, true, true, true, true, true, true, true, true, true, true, true, true, true, true, true, false, false, false, false, false, false, false, false, false, false, false, false, false] rfl rfl (by kernel_rfl) (fun _ _ _ h => by cases h.1) (Or.inl ⟨by rfl, ?_⟩) ?_ ?_
        rotate_left
        · intro w'
          go_simp
          with_reducible rfl
        rotate_left
        · simp only [Act.put, List.setIfInBounds_toArray, List.set_cons_zero, List.set_cons_succ]
          rfl
        refine pure_ (i := 28) (N := some 166) (v := undef) (a' := ?_) #[true, true, true, true, true, true, true, true, true, true, true, true, true, true, true, true, true, true, true, true, true, true, true, true, true, true, true, true, true, false, false, false, false, false, false, false, false, false, false, false, false] rfl rfl (by kernel_rfl) (fun _ _ _ h => by cases h.1) (Or.inr ⟨by rfl, rfl⟩) ?_ ?_
        rotate_left
        · simp only [Act.put, List.setIfInBounds_toArray, List.set_cons_zero, List.set_cons_succ]
          rfl
        refine pure_ (i := 29) (N := some 167) (v := undef) (a' := ?_) #[true, true, true, true, true, true, true, true, true, true, true, true, true, true, true, true, true, true, true, true, true, true, true, true, true, true, true, true, true, true, false, false, false, false, false, false, false, false, false, false, false] rfl rfl (by kernel_rfl) (fun _ _ _ h => by cases h.1) (Or.inr ⟨by rfl, rfl⟩) ?_ ?_
        rotate_left
        · simp only [Act.put, List.setIfInBounds_toArray, List.set_cons_zero, List.set_cons_succ]
          rfl
        refine pure_ (i := 30) (N := some 168) (v := undef) (a' := ?_) #[true, true, true, true, true, true, true, true, true, true, true, true, true, true, true, true, true, true, true, true, true, true, true, true, true, true, true, true, true, true, true, false, false, false, false, false, false, false, false, false, false] rfl rfl (by kernel_rfl) (fun _ _ _ h => by cases h.1) (Or.inr ⟨by rfl, rfl⟩) ?_ ?_
        rotate_left
        · simp only [Act.put, List.setIfInBounds_toArray, List.set_cons_zero, List.set_cons_succ]
          rfl
        refine pure_ (i := 31) (N := some 169) (v := undef) (a' := ?_) #[true, true, true, true, true, true, true, true, true, true, true, true, true, true, true, true, true, true, true, true, true, true, true, true, true, true, true, true, true, true, true, true, false, false, false, false, false, false, false, false, false] rfl rfl (by kernel_rfl) (fun _ _ _ h => by cases h.1) (Or.inr ⟨by rfl, rfl⟩) ?_ ?_
        rotate_left
        · simp only [Act.put, List.setIfInBounds_toArray, List.set_cons_zero, List.set_cons_succ]
          rfl
        refine pure_ (i := 32) (N := some 170) (v := undef) (a' := ?_) #[true, true, true, true, true, true, true, true, true, true, true, true, true, true, true, true, true, true, true, true, true, true, true, true, true, true, true, true, true, true, true, true, true, false, false, false, false, false, false, false, false] rfl rfl (by kernel_rfl) (fun _ _ _ h => by cases h.1) (Or.inr ⟨by rfl, rfl⟩) ?_ ?_
        rotate_left
        · simp only [Act.put, List.setIfInBounds_toArray, List.set_cons_zero, List.set_cons_succ]
          rfl
        refine pure_ (i := 33) (N := some 171) (v := undef) (a' := ?_) #[true, true, true, true, true, true, true, true, true, true, true, true, true, true, true, true, true, true, true, true, true, true, true, true, true, true, true, true, true, true, true, true, true, true, false, false, false, false, false, false, false] rfl rfl (by kernel_rfl) (fun _ _ _ h => by cases h.1) (Or.inr ⟨by rfl, rfl⟩) ?_ ?_
        rotate_left
        · simp only [Act.put, List.setIfInBounds_toArray, List.set_cons_zero, List.set_cons_succ]
          rfl
        refine pure_ (i := 34) (N := some 172) (v := undef) (a' := ?_) #[true, true, true, true, true, true, true, true, true, true, true, true, true, true, true, true, true, true, true, true, true, true, true, true, true, true, true, true, true, true, true, true, true, true, true, false, false, false, false, false, false] rfl rfl (by kernel_rfl) (fun _ _ _ h => by cases h.1) (Or.inr ⟨by rfl, rfl⟩) ?_ ?_
        rotate_left
        · simp only [Act.put, List.setIfInBounds_toArray, List.set_cons_zero, List.set_cons_succ]
          rfl
        refine pure_ (i := 35) (N := some 173) (v := undef) (a' := ?_) #[true, true, true, true, true, true, true, true, true, true, true, true, true, true, true, true, true, true, true, true, true, true, true, true, true, true, true, true, true, true, true, true, true, true, true, true, false, false, false, false, false] rfl rfl (by kernel_rfl) (fun _ _ _ h => by cases h.1) (Or.inr ⟨by rfl, rfl⟩) ?_ ?_
        rotate_left
        · simp only [Act.put, List.setIfInBounds_toArray, List.set_cons_zero, List.set_cons_succ]
          rfl
        refine pure_ (i := 36) (N := some 174) (v := undef) (a' := ?_) #[true, true, true, true, true, true, true, true, true, true, true, true, true, true, true, true, true, true, true, true, true, true, true, true, true, true, true, true, true, true, true, true, true, true, true, true, true, false, false, false, false] rfl rfl (by kernel_rfl) (fun _ _ _ h => by cases h.1) (Or.inr ⟨by rfl, rfl⟩) ?_ ?_
        rotate_left
        · simp only [Act.put, List.setIfInBounds_toArray, List.set_cons_zero, List.set_cons_succ]
          rfl
        refine pure_ (i := 37) (N := some 175) (v := undef) (a' := ?_) #[true, true, true, true, true, true, true, true, true, true, true, true, true, true, true, true, true, true, true, true, true, true, true, true, true, true, true, true, true, true, true, true, true, true, true, true, true, true, false, false, false] rfl rfl (by kernel_rfl) (fun _ _ _ h => by cases h.1) (Or.inr ⟨by rfl, rfl⟩) ?_ ?_
        rotate_left
        · simp only [Act.put, List.setIfInBounds_toArray, List.set_cons_zero, List.set_cons_succ]
          rfl
        refine pure_ (i := 38) (N := some 176) (v := undef) (a' := ?_) #[true, true, true, true, true, true, true, true, true, true, true, true, true, true, true, true, true, true, true, true, true, true, true, true, true, true, true, true, true, true, true, true, true, true, true, true, true, true, true, false, false] rfl rfl (by kernel_rfl) (fun _ _ _ h => by cases h.1) (Or.inr ⟨by rfl, rfl⟩) ?_ ?_
        rotate_left
        · simp only [Act.put, List.setIfInBounds_toArray, List.set_cons_zero, List.set_cons_succ]
          rfl
        refine pure_ (i := 39) (N := some 177) (v := ?_) (a' := ?_) #[true, true, true, true, true, true, true, true, true, true, true, true, true, true, true, true, true, true, true, true, true, true, true, true, true, true, true, true, true, true, true, true, true, true, true, true, true, true, true, true, false] rfl rfl (by kernel_rfl) (fun _ _ _ h => by cases h.1) (Or.inl ⟨by rfl, ?_⟩) ?_ ?_
        rotate_left
        · intro w'
          go_simp
          with_reducible rfl
        rotate_left
        · simp only [Act.put, List.setIfInBounds_toArray, List.set_cons_zero, List.set_cons_succ]
          rfl
        refine pure_ (i := 40) (N := some 178) (v := ?_) (a' := ?_) #[true, true, true, true, true, true, true, true, true, true, true, true, true, true, true, true, true, true, true, true, true, true, true, true, true, true, true, true, true, true, true, true, true, true, true, true, true, true, true, true, true] rfl rfl (by kernel_rfl) (fun _ _ _ h => by cases h.1) (Or.inl ⟨by rfl, ?_⟩) ?_ ?_
        rotate_left
        · intro w'
          go_simp
          with_reducible rfl
        rotate_left
        · simp only [Act.put, List.setIfInBounds_toArray, List.set_cons_zero, List.set_cons_succ]
          rfl
        refine done_ (by kernel_rfl) ?_
        exact ⟨rfl, rfl, hS⟩
      clear w1 w2 d1' d2'
      rcases HQ.out with hq | ⟨hq1, hq2⟩
      · subst hq
        intro W9 hb
        replace HB := Lib.hid (below_step HB.out hb)
        replace H0 := Lib.hid (blk_keep hb H0.out)
        clear hb k0 k1 k2 k3 k4 k5 k6 k7 k8 k9 k10 k11 y0 y2
        obtain ⟨k0, k1, k2, k3, k4, k5, k6, k7, k8, k9, k10, k11⟩ := cfg_cells H0.out
        go_wp2_with fail
        refine (check_calls _ _ _ _ _ _ _ _ _ _ C _ (HR.out.below HB.out)).mono ?_
        rintro e u3 ⟨rfl, hb⟩
        rw [EC.out]
        replace HB := Lib.hid (below_step HB.out hb)
        clear hb
        go_wp2
        go_ret
        exact ⟨rfl, HB.out⟩
      · have q0 : (q == 0) = false := beq_eq_false_iff_ne.2 (by omega)
        intro W9 hb
        replace HB := Lib.hid (below_step HB.out hb)
        replace H0 := Lib.hid (blk_keep hb H0.out)
        clear hb k0 k1 k2 k3 k4 k5 k6 k7 k8 k9 k10 k11 y0 y2
        obtain ⟨k0, k1, k2, k3, k4, k5, k6, k7, k8, k9, k10, k11⟩ := cfg_cells H0.out
        go_wp2_with fail
        refine (check_calls _ _ _ _ _ _ _ _ _ _ C _ (HR.out.below HB.out)).mono ?_
        rintro e u3 ⟨rfl, hb⟩
        rw [EC.out]
        replace HB := Lib.hid (below_step HB.out hb)
        clear hb
        go_wp2
        go_ret
        exact ⟨rfl, HB.out⟩
    · subst hq
      have d1' : decide (x < 2 * p + C.f3) = true := decide_eq_true x1
      clear x1 p0 p1 c0' c1' HR5
      go_wp2_with fail
      apply region_z (N := 41) (ds := []) #[false, false, false, false, false, false, false, false, false, false, false, false, false, false, false, false, false, false, false, false, false, false, false, false, false, false, false, false, false, false, false, false, false, false, false, false, false, false, false, false, false]
      · kernel_rfl
      · rfl
      · rfl
      · intro Wd hS
        refine pure_ (i := 0) (N := some 138) (v := ?_) (a' := ?_) #[true, false, false, false, false, false, false, false, false, false, false, false, false, false, false, false, false, false, false, false, false, false, false, false, false, false, false, false, false, false, false, false, false, false, false, false, false, false, false, false, false] rfl rfl (by kernel_rfl) (fun _ _ _ h => by cases h.1) (Or.inl ⟨by rfl, ?_⟩) ?_ ?_
        rotate_left
        · intro w'
          go_simp
          with_reducible rfl
        rotate_left
        · simp only [Act.put, List.setIfInBounds_toArray, List.set_cons_zero, List.set_cons_succ]
          rfl
        refine take_ (i := 1) (N := some 139) (v := ?_) (a' := ?_) #[true, true, false, false, false, false, false, false, false, false, false, false, false, false, false, false, false, false, false, false, false, false, false, false, false, false, false, false, false, false, false, false, false, false, false, false, false, false, false, false, false] rfl rfl (by kernel_rfl) (fun _ _ _ h => by cases h.1) (Or.inl ⟨by rfl, ?_⟩) hS ?_ ?_
        rotate_left
        · intro w' hb
          have s0 := hb.cell y0
          go_simp
          with_reducible rfl
        rotate_left
        · simp only [Act.put, List.setIfInBounds_toArray, List.set_cons_zero, List.set_cons_succ]
          rfl
        refine pure_ (i := 2) (N := some 140) (v := ?_) (a' := ?_) #[true, true, true, false, false, false, false, false, false, false, false, false, false, false, false, false, false, false, false, false, false, false, false, false, false, false, false, false, false, false, false, false, false, false, false, false, false, false, false, false, false] rfl rfl (by kernel_rfl) (fun _ _ _ h => by cases h.1) (Or.inl ⟨by rfl, ?_⟩) ?_ ?_
        rotate_left
        · intro w'
          go_simp
          with_reducible rfl
        rotate_left
        · simp only [Act.put, List.setIfInBounds_toArray, List.set_cons_zero, List.set_cons_succ]
          rfl
        refine pure_ (i := 3) (N := some 141) (v := ?_) (a' := ?_) #[true, true, true, true, false, false, false, false, false, false, false, false, false, false, false, false, false, false, false, false, false, false, false, false, false, false, false, false, false, false, false, false, false, false, false, false, false, false, false, false, false] rfl rfl (by kernel_rfl) (fun _ _ _ h => by cases h.1) (Or.inl ⟨by rfl, ?_⟩) ?_ ?_
        rotate_left
        · intro w'
          go_simp
          with_reducible rfl
        rotate_left
        · simp only [Act.put, List.setIfInBounds_toArray, List.set_cons_zero, List.set_cons_succ]
          rfl
        refine pure_ (i := 4) (N := some 142) (v := ?_) (a' := ?_) #[true, true, true, true, true, false, false, false, false, false, false, false, false, false, false, false, false, false, false, false, false, false, false, false, false, false, false, false, false, false, false, false, false, false, false, false, false, false, false, false, false] rfl rfl (by kernel_rfl) (fun _ _ _ h => by cases h.1) (Or.inl ⟨by rfl, ?_⟩) ?_ ?_
        rotate_left
        · intro w'
          go_simp
          with_reducible rfl
        rotate_left
        · simp only [Act.put, List.setIfInBounds_toArray, List.set_cons_zero, List.set_cons_succ]
          rfl
        refine take_ (i := 5) (N := some 143) (v := ?_) (a' := ?_) #[true, true, true, true, true, true, false, false, false, false, false, false, false, false, false, false, false, false, false, false, false, false, false, false, false, false, false, false, false, false, false, false, false, false, false, false, false, false, false, false, false] rfl rfl (by kernel_rfl) (fun _ _ _ h => by cases h.1) (Or.inl ⟨by rfl, ?_⟩) hS ?_ ?_
        rotate_left
        · intro w' hb
          have s0 := hb.cell y2
          go_simp
          with_reducible rfl
        rotate_left
        · simp only [Act.put, List.setIfInBounds_toArray, List.set_cons_zero, List.set_cons_succ]
          rfl
        refine take_ (i := 6) (N := some 144) (v := ?_) (a' := ?_) #[true, true, true, true, true, true, true, false, false, false, false, false, false, false, false, false, false, false, false, false, false, false, false, false, false, false, false, false, false, false, false, false, false, false, false, false, false, false, false, false, false] rfl rfl (by kernel_rfl) (fun _ _ _ h => by cases h.1) (Or.inl ⟨by rfl, ?_⟩) hS ?_ ?_
        rotate_left
        · intro w' hb
          have s0 := hb.cell k0
          have s1 := hb.cell k1
          have s2 := hb.cell k2
          have s3 := hb.cell k3
          have s4 := hb.cell k4
          have s5 := hb.cell k5
          have s6 := hb.cell k6
          have s7 := hb.cell k7
          have s8 := hb.cell k8
          have s9 := hb.cell k9
          have s10 := hb.cell k10
          have s11 := hb.cell k11
          go_simp
          with_reducible rfl
        rotate_left
        · simp only [Act.put, List.setIfInBounds_toArray, List.set_cons_zero, List.set_cons_succ]
          rfl
        refine pure_ (i := 9) (N := some 147) (v := ?_) (a' := ?_) #[true, true, true, true, true, true, true, false, false, true, false, false, false, false, false, false, false, false, false, false, false, false, false, false, false, false, false, false, false, false, false, false, false, false, false, false, false, false, false, false, false] rfl rfl (by kernel_rfl) (fun _ _ _ h => by cases h.1) (Or.inl ⟨by rfl, ?_⟩) ?_ ?_
        rotate_left
        · intro w'
          go_simp
          with_reducible rfl
        rotate_left
        · simp only [Act.put, List.setIfInBounds_toArray, List.set_cons_zero, List.set_cons_succ]
          rfl
        refine take_ (i := 10) (N := some 148) (v := ?_) (a' := ?_) #[true, true, true, true, true, true, true, false, false, true, true, false, false, false, false, false, false, false, false, false, false, false, false, false, false, false, false, false, false, false, false, false, false, false, false, false, false, false, false, false, false] rfl rfl (by kernel_rfl) (fun _ _ _ h => by cases h.1) (Or.inl ⟨by rfl, ?_⟩) hS ?_ ?_
        rotate_left
        · intro w' hb
          have s0 := hb.cell k3
          go_simp
          with_reducible rfl
        rotate_left
        · simp only [Act.put, List.setIfInBounds_toArray, List.set_cons_zero, List.set_cons_succ]
          rfl
        refine one_ (i := 7) (N := some 145) #[true, true, true, true, true, true, true, true, false, true, true, false, false, false, false, false, false, false, false, false, false, false, false, false, false, false, false, false, false, false, false, false, false, false, false, false, false, false, false, false, false] rfl rfl (by kernel_rfl) (by simp) (fun K hK => ?_)
        go_simp
        refine (prec_calls _ _ _ _ _ _ _ _ _ _ C _).mono ?_
        rintro e u7 ⟨rfl, hb⟩
        rw [← EP.out]
        have hS7 : Bz u2 u7 := Below.trans hS (hb.mono hS.size)
        refine hK.out _ _ hS7 (fun _ => ?_)
        clear hK K hb hS
        have hS := hS7
        refine pure_ (i := 8) (N := some 146) (v := ?_) (a' := ?_) #[true, true, true, true, true, true, true, true, true, true, true, false, false, false, false, false, false, false, false, false, false, false, false, false, false, false, false, false, false, false, false, false, false, false, false, false, false, false, false, false, false] rfl rfl (by kernel_rfl) (fun _ _ _ h => by cases h.1) (Or.inl ⟨by rfl, ?_⟩) ?_ ?_
        rotate_left
        · intro w'
          go_simp
          with_reducible rfl
        rotate_left
        · simp only [Act.put, List.setIfInBounds_toArray, List.set_cons_zero, List.set_cons_succ]
          rfl
        refine pure_ (i := 11) (N := some 149) (v := ?_) (a' := ?_) #[true, true, true, true, true, true, true, true, true, true, true, true, false, false, false, false, false, false, false, false, false, false, false, false, false, false, false, false, false, false, false, false, false, false, false, false, false, false, false, false, false] rfl rfl (by kernel_rfl) (fun _ _ _ h => by cases h.1) (Or.inl ⟨by rfl, ?_⟩) ?_ ?_
        rotate_left
        · intro w'
          go_simp
          with_reducible rfl
        rotate_left
        · simp only [Act.put, List.setIfInBounds_toArray, List.set_cons_zero, List.set_cons_succ]
          rfl
        refine pure_ (i := 12) (N := some 150) (v := ?_) (a' := ?_) #[true, true, true, true, true, true, true, true, true, true, true, true, true, false, false, false, false, false, false, false, false, false, false, false, false, false, false, false, false, false, false, false, false, false, false, false, false, false, false, false, false] rfl rfl (by kernel_rfl) (fun _ _ _ h => by cases h.1) (Or.inl ⟨by rfl, ?_⟩) ?_ ?_
        rotate_left
        · intro w'
          go_simp
          with_reducible rfl
        rotate_left
        · simp only [Act.put, List.setIfInBounds_toArray, List.set_cons_zero, List.set_cons_succ]
          rfl
        refine pure_ (i := 13) (N := some 151) (v := ?_) (a' := ?_) #[true, true, true, true, true, true, true, true, true, true, true, true, true, true, false, false, false, false, false, false, false, false, false, false, false, false, false, false, false, false, false, false, false, false, false, false, false, false, false, false, false] rfl rfl (by kernel_rfl) (fun _ _ _ h => by cases h.1) (Or.inl ⟨by rfl, ?_⟩) ?_ ?_
        rotate_left
        · intro w'
          go_simp
          with_reducible rfl
        rotate_left
        · simp only [Act.put, List.setIfInBounds_toArray, List.set_cons_zero, List.set_cons_succ]
          rfl
        refine pure_ (i := 14) (N := some 152) (v := undef) (a' := ?_) #[true, true, true, true, true, true, true, true, true, true, true, true, true, true, true, false, false, false, false, false, false, false, false, false, false, false, false, false, false, false, false, false, false, false, false, false, false, false, false, false, false] rfl rfl (by kernel_rfl) (fun _ _ _ h => by cases h.1) (Or.inr ⟨by rfl, rfl⟩) ?_ ?_
        rotate_left
        · simp only [Act.put, List.setIfInBounds_toArray, List.set_cons_zero, List.set_cons_succ]
          rfl
        refine pure_ (i := 15) (N := some 153) (v := undef) (a' := ?_) #[true, true, true, true, true, true, true, true, true, true, true, true, true, true, true, true, false, false, false, false, false, false, false, false, false, false, false, false, false, false, false, false, false, false, false, false, false, false, false, false, false] rfl rfl (by kernel_rfl) (fun _ _ _ h => by cases h.1) (Or.inr ⟨by rfl, rfl⟩) ?_ ?_
        rotate_left
        · simp only [Act.put, List.setIfInBounds_toArray, List.set_cons_zero, List.set_cons_succ]
          rfl
        refine pure_ (i := 16) (N := some 154) (v := undef) (a' := ?_) #[true, true, true, true, true, true, true, true, true, true, true, true, true, true, true, true, true, false, false, false, false, false, false, false, false, false, false, false, false, false, false, false, false, false, false, false, false, false, false, false, false] rfl rfl (by kernel_rfl) (fun _ _ _ h => by cases h.1) (Or.inr ⟨by rfl, rfl⟩) ?_ ?_
        rotate_left
        · simp only [Act.put, List.setIfInBounds_toArray, List.set_cons_zero, List.set_cons_succ]
          rfl
        refine pure_ (i := 17) (N := some 155) (v := ?_) (a' := ?_) #[true, true, true, true, true, true, true, true, true, true, true, true, true, true, true, true, true, true, false, false, false, false, false, false, false, false, false, false, false, false, false, false, false, false, false, false, false, false, false, false, false] rfl rfl (by kernel_rfl) (fun _ _ _ h => by cases h.1) (Or.inl ⟨by rfl, ?_⟩) ?_ ?_
        rotate_left
        · intro w'
          go_simp
          with_reducible rfl
        rotate_left
        · simp only [Act.put, List.setIfInBounds_toArray, List.set_cons_zero, List.set_cons_succ]
          rfl
        refine pure_ (i := 18) (N := some 156) (v := ?_) (a' := ?_) #[true, true, true, true, true, true, true, true, true, true, true, true, true, true, true, true, true, true, true, false, false, false, false, false, false, false, false, false, false, false, false, false, false, false, false, false, false, false, false, false, false] rfl rfl (by kernel_rfl) (fun _ _ _ h => by cases h.1) (Or.inl ⟨by rfl, ?_⟩) ?_ ?_
        rotate_left
        · intro w'
          go_simp
          with_reducible rfl
        rotate_left
        · simp only [Act.put, List.setIfInBounds_toArray, List.set_cons_zero, List.set_cons_succ]
          rfl
        refine pure_ (i := 19) (N := some 157) (v := ?_) (a' := ?_) #[true, true, true, true, true, true, true, true, true, true, true, true, true, true, true, true, true, true, true, true, false, false, false, false, false, false, false, false, false, false, false, false, false, false, false, false, false, false, false, false, false] rfl rfl (by kernel_rfl) (fun _ _ _ h => by cases h.1) (Or.inl ⟨by rfl, ?_⟩) ?_ ?_
        rotate_left
        · intro w'
          go_simp
          with_reducible rfl
        rotate_left
        · simp only [Act.put, List.setIfInBounds_toArray, List.set_cons_zero, List.set_cons_succ]
          rfl
        refine pure_ (i := 20) (N := some 158) (v := ?_) (a' := ?_) #[true, true, true, true, true, true, true, true, true, true, true, true, true, true, true, true, true, true, true, true, true, false, false, false, false, false, false, false, false, false, false, false, false, false, false, false, false, false, false, false, false] rfl rfl (by kernel_rfl) (fun _ _ _ h => by cases h.1) (Or.inl ⟨by rfl, ?_⟩) ?_ ?_
        rotate_left
        · intro w'
          go_simp
          with_reducible rfl
        rotate_left
        · simp only [Act.put, List.setIfInBounds_toArray, List.set_cons_zero, List.set_cons_succ]
          rfl
        refine pure_ (i := 21) (N := some 159) (v := ?_) (a' := ?_) #[true, true, true, true, true, true, true, true, true, true, true, true, true, true, true, true, true, true, true, true, true, true, false, false, false, false, false, false, false, false, false, false, false, false, false, false, false, false, false, false, false] rfl rfl (by kernel_rfl) (fun _ _ _ h => by cases h.1) (Or.inl ⟨by rfl, ?_⟩) ?_ ?_
        rotate_left
        · intro w'
          go_simp
          with_reducible rfl
        rotate_left
        · simp only [Act.put, List.setIfInBounds_toArray, List.set_cons_zero, List.set_cons_succ]
          rfl
        refine pure_ (i := 22) (N := some 160) (v := ?_) (a' := ?_) #[true, true, true, true, true, true, true, true, true, true, true, true, true, true, true, true, true, true, true, true, true, true, true, false, false, false, false, false, false, false, false, false, false, false, false, false, false, false, false, false, false] rfl rfl (by kernel_rfl) (fun _ _ _ h => by cases h.1) (Or.inl ⟨by rfl, ?_⟩) ?_ ?_
        rotate_left
        · intro w'
          go_simp
          with_reducible rfl
        rotate_left
        · simp only [Act.put, List.setIfInBounds_toArray, List.set_cons_zero, List.set_cons_succ]
          rfl
        refine pure_ (i := 23) (N := some 161) (v := ?_) (a' := ?_) #[true, true, true, true, true, true, true, true, true, true, true, true, true, true, true, true, true, true, true, true, true, true, true, true, false, false, false, false, false, false, false, false, false, false, false, false, false, false, false, false, false] rfl rfl (by kernel_rfl) (fun _ _ _ h => by cases h.1) (Or.inl ⟨by rfl, ?_⟩) ?_ ?_
        rotate_left
        · intro w'
          go_simp
          with_reducible rfl
        rotate_left
        · simp only [Act.put, List.setIfInBounds_toArray, List.set_cons_zero, List.set_cons_succ]
          rfl
        refine pure_ (i := 24) (N := some 162) (v := ?_) (a' := ?_) #[true, true, true, true, true, true, true, true, true, true, true, true, true, true, true, true, true, true, true, true, true, true, true, true, true, false, false, false, false, false, false, false, false, false, false, false, false, false, false, false, false] rfl rfl (by kernel_rfl) (fun _ _ _ h => by cases h.1) (Or.inl ⟨by rfl, ?_⟩) ?_ ?_
        rotate_left
        · intro w'
          go_simp
          with_reducible rfl
        rotate_left
        · simp only [Act.put, List.setIfInBounds_toArray, List.set_cons_zero, List.set_cons_succ]
          rfl
        refine take_ (i := 25) (N := some 163) (v := ?_) (a' := ?_) #[true, true, true, true, true, true, true, true, true, true, true, true, true, true, true, true, true, true, true, true, true, true, true, true, true, true, false, false, false, false, false, false, false, false, false, false, false, false, false, false, false] rfl rfl (by kernel_rfl) (fun _ _ _ h => by cases h.1) (Or.inl ⟨by rfl, ?_⟩) hS ?_ ?_
        rotate_left
        · intro w' hb
          have s0 := hb.cell y0
          go_simp
          with_reducible rfl
        rotate_left
        · simp only [Act.put, List.setIfInBounds_toArray, List.set_cons_zero, List.set_cons_succ]
          rfl
        refine pure_ (i := 26) (N := some 164) (v := ?_) (a' := ?_) #[true, true, true, true, true, true, true, true, true, true, true, true, true, true, true, true, true, true, true, true, true, true, true, true, true, true, true, false, false, false, false, false, false, false, false, false, false, false, false, false, false] rfl rfl (by kernel_rfl) (fun _ _ _ h => by cases h.1) (Or.inl ⟨by rfl, ?_⟩) ?_ ?_
        rotate_left
        · intro w'
          go_simp
          with_reducible rfl
        rotate_left
        · simp only [Act.put, List.setIfInBounds_toArray, List.set_cons_zero, List.set_cons_succ]
          rfl
        refine pure_ (i := 27) (N := some 165) (v := ?_) (a' := ?_) #[true, true, true, true, true, true, true, true, true, true, true, true, true, true, true, true, true, true, true, true, true, true, true, true, true, true, true, true, false, false, false, false, false, false, false, false, false, false, false, false, false] rfl rfl (by kernel_rfl) (fun _ _ _ h => by cases h.1) (Or.inl ⟨by rfl, ?_⟩) ?_ ?_
        rotate_left
        · intro w'
          go_simp
          with_reducible rfl
        rotate_left
        · simp only [Act.put, List.setIfInBounds_toArray, List.set_cons_zero, List.set_cons_succ]
          rfl
        refine pure_ (i := 28) (N := some 166) (v := undef) (a' := ?_) #[true, true, true, true, true, true, true, true, true, true, true, true, true, true, true, true, true, true, true, true, true, true, true, true, true, true, true, true, true, false, false, false, false, false, false, false, false, false, false, false, false] rfl rfl (by kernel_rfl) (fun _ _ _ h => by cases h.1) (Or.inr ⟨by rfl, rfl⟩) ?_ ?_
        rotate_left
        · simp only [Act.put, List.setIfInBounds_toArray, List.set_cons_zero, List.set_cons_succ]
          rfl
        refine pure_ (i := 29) (N := some 167) (v := undef) (a' := ?_) #[true, true, true, true, true, true, true, true, true, true, true, true, true, true, true, true, true, true, true, true, true, true, true, true, true, true, true, true, true, true, false, false, false, false, false, false, false, false, false, false, false] rfl rfl (by kernel_rfl) (fun _ _ _ h => by cases h.1) (Or.inr ⟨by rfl, rfl⟩) ?_ ?_
        rotate_left
        · simp only [Act.put, List.setIfInBounds_toArray, List.set_cons_zero, List.set_cons_succ]
          rfl
        refine pure_ (i := 30) (N := some 168) (v := undef) (a' := ?_) #[true, true, true, true, true, true, true, true, true, true, true, true, true, true, true, true, true, true, true, true, true, true, true, true, true, true, true, true, true, true, true, false, false, false, false, false, false, false, false, false, false] rfl rfl (by kernel_rfl) (fun _ _ _ h => by cases h.1) (Or.inr ⟨by rfl, rfl⟩) ?_ ?_
        rotate_left
        · simp only [Act.put, List.setIfInBounds_toArray, List.set_cons_zero, List.set_cons_succ]
          rfl
        refine pure_ (i := 31) (N := some 169) (v := undef) (a' := ?_) #[true, true, true, true, true, true, true, true, true, true, true, true, true, true, true, true, true, true, true, true, true, true, true, true, true, true, true, true, true, true, true, true, false, false, false, false, false, false, false, false, false] rfl rfl (by kernel_rfl) (fun _ _ _ h => by cases h.1) (Or.inr ⟨by rfl, rfl⟩) ?_ ?_
        rotate_left
        · simp only [Act.put, List.setIfInBounds_toArray, List.set_cons_zero, List.set_cons_succ]
          rfl
        refine pure_ (i := 32) (N := some 170) (v := undef) (a' := ?_) #[true, true, true, true, true, true, true, true, true, true, true, true, true, true, true, true, true, true, true, true, true, true, true, true, true, true, true, true, true, true, true, true, true, false, false, false, false, false, false, false, false] rfl rfl (by kernel_rfl) (fun _ _ _ h => by cases h.1) (Or.inr ⟨by rfl, rfl⟩) ?_ ?_
        rotate_left
        · simp only [Act.put, List.setIfInBounds_toArray, List.set_cons_zero, List.set_cons_succ]
          rfl
        refine pure_ (i := 33) (N := some 171) (v := undef) (a' := ?_) #[true, true, true, true, true, true, true, true, true, true, true, true, true, true, true, true, true, true, true, true, true, true, true, true, true, true, true, true, true, true, true, true, true, true, false, false, false, false, false, false, false] rfl rfl (by kernel_rfl) (fun _ _ _ h => by cases h.1) (Or.inr ⟨by rfl, rfl⟩) ?_ ?_
        rotate_left
        · simp only [Act.put, List.setIfInBounds_toArray, List.set_cons_zero, List.set_cons_succ]
          rfl
        refine pure_ (i := 34) (N := some 172) (v := undef) (a' := ?_) #[true, true, true, true, true, true, true, true, true, true, true, true, true, true, true, true, true, true, true, true, true, true, true, true, true, true, true, true, true, true, true, true, true, true, true, false, false, false, false, false, false] rfl rfl (by kernel_rfl) (fun _ _ _ h => by cases h.1) (Or.inr ⟨by rfl, rfl⟩) ?_ ?_
        rotate_left
        · simp only [Act.put, List.setIfInBounds_toArray, List.set_cons_zero, List.set_cons_succ]
          rfl
        refine pure_ (i := 35) (N := some 173) (v := undef) (a' := ?_) #[true, true, true, true, true, true, true, true, true, true, true, true, true, true, true, true, true, true, true, true, true, true, true, true, true, true, true, true, true, true, true, true, true, true, true, true, false, false, false, false, false] rfl rfl (by kernel_rfl) (fun _ _ _ h => by cases h.1) (Or.inr ⟨by rfl, rfl⟩) ?_ ?_
        rotate_left
        · simp only [Act.put, List.setIfInBounds_toArray, List.set_cons_zero, List.set_cons_succ]
          rfl
        refine pure_ (i := 36) (N := some 174) (v := undef) (a' := ?_) #[true, true, true, true, true, true, true, true, true, true, true, true, true, true, true, true, true, true, true, true, true, true, true, true, true, true, true, true, true, true, true, true, true, true, true, true, true, false, false, false, false] rfl rfl (by kernel_rfl) (fun _ _ _ h => by cases h.1) (Or.inr ⟨by rfl, rfl⟩) ?_ ?_
        rotate_left
        · simp only [Act.put, List.setIfInBounds_toArray, List.set_cons_zero, List.set_cons_succ]
          rfl
        refine pure_ (i := 37) (N := some 175) (v := undef) (a' := ?_) #[true, true, true, true, true, true, true, true, true, true, true, true, true, true, true, true, true, true, true, true, true, true, true, true, true, true, true, true, true, true, true, true, true, true, true, true, true, true, false, false, false] rfl rfl (by kernel_rfl) (fun _ _ _ h => by cases h.1) (Or.inr ⟨by rfl, rfl⟩) ?_ ?_
        rotate_left
        · simp only [Act.put, List.setIfInBounds_toArray, List.set_cons_zero, List.set_cons_succ]
          rfl
        refine pure_ (i := 38) (N := some 176) (v := undef) (a' := ?_) #[true, true, true, true, true, true, true, true, true, true, true, true, true, true, true, true, true, true, true, true, true, true, true, true, true, true, true, true, true, true, true, true, true, true, true, true, true, true, true, false, false] rfl rfl (by kernel_rfl) (fun _ _ _ h => by cases h.1) (Or.inr ⟨by rfl, rfl⟩) ?_ ?_
        rotate_left
        · simp only [Act.put, List.setIfInBounds_toArray, List.set_cons_zero, List.set_cons_succ]
          rfl
        refine pure_ (i := 39) (N := some 177) (v := ?_) (a' := ?_) #[true, true, true, true, true, true, true, true, true, true, true, true, true, true, true, true, true, true, true, true, true, true, true, true, true, true, true, true, true, true, true, true, true, true, true, true, true, true, true, true, false] rfl rfl (by kernel_rfl) (fun _ _ _ h => by cases h.1) (Or.inl ⟨by rfl, ?_⟩) ?_ ?_
        rotate_left
        · intro w'
          go_simp
          with_reducible rfl
        rotate_left
        · simp only [Act.put, List.setIfInBounds_toArray, List.set_cons_zero, List.set_cons_succ]
          rfl
        refine pure_ (i := 40) (N := some 178) (v := ?_) (a' := ?_) #[true, true, true, true, true, true, true, true, true, true, true, true, true, true, true, true, true, true, true, true, true, true, true, true, true, true, true, true, true, true, true, true, true, true, true, true, true, true, true, true, true] rfl rfl (by kernel_rfl) (fun _ _ _ h => by cases h.1) (Or.inl ⟨by rfl, ?_⟩) ?_ ?_
        rotate_left
        · intro w'
          go_simp
          with_reducible rfl
        rotate_left
        · simp only [Act.put, List.setIfInBounds_toArray, List.set_cons_zero, List.set_cons_succ]
          rfl
        refine done_ (by kernel_rfl) ?_
        exact ⟨rfl, rfl, hS⟩
      clear w1 w2 d1'
      intro W9 hb
      replace HB := Lib.hid (below_step HB.out hb)
      replace H0 := Lib.hid (blk_keep hb H0.out)
      clear hb k0 k1 k2 k3 k4 k5 k6 k7 k8 k9 k10 k11 y0 y2
      obtain ⟨k0, k1, k2, k3, k4, k5, k6, k7, k8, k9, k10, k11⟩ := cfg_cells H0.out
      go_wp2_with fail
      refine (check_calls _ _ _ _ _ _ _ _ _ _ C _ (HR.out.below HB.out)).mono ?_
      rintro e u3 ⟨rfl, hb⟩
      rw [EC.out]
      replace HB := Lib.hid (below_step HB.out hb)
      clear hb
      go_wp2
      go_ret
      exact ⟨rfl, HB.out⟩
    · subst hq
      have d1' : decide (x < 2 * p + C.f3) = false := decide_eq_false (by omega)
      have d2' : decide (16777216 < x) = true := decide_eq_true x2
      clear x1 x2 p0 p1 c0' c1' HR5
      go_wp2_with fail
      apply region_z (N := 41) (ds := []) #[false, false, false, false, false, false, false, false, false, false, false, false, false, false, false, false, false, false, false, false, false, false, false, false, false, false, false, false, false, false, false, false, false, false, false, false, false, false, false, false, false]
      · kernel_rfl
      · rfl
      · rfl
      · intro Wd hS
        refine pure_ (i := 0) (N := some 138) (v := ?_) (a' := ?_) #[true, false, false, false, false, false, false, false, false, false, false, false, false, false, false, false, false, false, false, false, false, false, false, false, false, false, false, false, false, false, false, false, false, false, false, false, false, false, false, false, false] rfl rfl (by kernel_rfl) (fun _ _ _ h => by cases h.1) (Or.inl ⟨by rfl, ?_⟩) ?_ ?_
        rotate_left
        · intro w'
          go_simp
          with_reducible rfl
        rotate_left
        · simp only [Act.put, List.setIfInBounds_toArray, List.set_cons_zero, List.set_cons_succ]
          rfl
        refine take_ (i := 1) (N := some 139) (v := ?_) (a' := ?_) #[true, true, false, false, false, false, false, false, false, false, false, false, false, false, false, false, false, false, false, false, false, false, false, false, false, false, false, false, false, false, false, false, false, false, false, false, false, false, false, false, false] rfl rfl (by kernel_rfl) (fun _ _ _ h => by cases h.1) (Or.inl ⟨by rfl, ?_⟩) hS ?_ ?_
        rotate_left
        · intro w' hb
          have s0 := hb.cell y0
          go_simp
          with_reducible rfl
        rotate_left
        · simp only [Act.put, List.setIfInBounds_toArray, List.set_cons_zero, List.set_cons_succ]
          rfl
        refine pure_ (i := 2) (N := some 140) (v := ?_) (a' := ?_) #[true, true, true, false, false, false, false, false, false, false, false, false, false, false, false, false, false, false, false, false, false, false, false, false, false, false, false, false, false, false, false, false, false, false, false, false, false, false, false, false, false] rfl rfl (by kernel_rfl) (fun _ _ _ h => by cases h.1) (Or.inl ⟨by rfl, ?_⟩) ?_ ?_
        rotate_left
        · intro w'
          go_simp
          with_reducible rfl
        rotate_left
        · simp only [Act.put, List.setIfInBounds_toArray, List.set_cons_zero, List.set_cons_succ]
          rfl
        refine pure_ (i := 3) (N := some 141) (v := ?_) (a' := ?_) #[true, true, true, true, false, false, false, false, false, false, false, false, false, false, false, false, false, false, false, false, false, false, false, false, false, false, false, false, false, false, false, false, false, false, false, false, false, false, false, false, false] rfl rfl (by kernel_rfl) (fun _ _ _ h => by cases h.1) (Or.inl ⟨by rfl, ?_⟩) ?_ ?_
        rotate_left
        · intro w'
          go_simp
          with_reducible rfl
        rotate_left
        · simp only [Act.put, List.setIfInBounds_toArray, List.set_cons_zero, List.set_cons_succ]
          rfl
        refine pure_ (i := 4) (N := some 142) (v := ?_) (a' := ?_) #[true, true, true, true, true, false, false, false, false, false, false, false, false, false, false, false, false, false, false, false, false, false, false, false, false, false, false, false, false, false, false, false, false, false, false, false, false, false, false, false, false] rfl rfl (by kernel_rfl) (fun _ _ _ h => by cases h.1) (Or.inl ⟨by rfl, ?_⟩) ?_ ?_
        rotate_left
        · intro w'
          go_simp
          with_reducible rfl
        rotate_left
        · simp only [Act.put, List.setIfInBounds_toArray, List.set_cons_zero, List.set_cons_succ]
          rfl
        refine take_ (i := 5) (N := some 143) (v := ?_) (a' := ?_) #[true, true, true, true, true, true, false, false, false, false, false, false, false, false, false, false, false, false, false, false, false, false, false, false, false, false, false, false, false, false, false, false, false, false, false, false, false, false, false, false, false] rfl rfl (by kernel_rfl) (fun _ _ _ h => by cases h.1) (Or.inl ⟨by rfl, ?_⟩) hS ?_ ?_
        rotate_left
        · intro w' hb
          have s0 := hb.cell y2
          go_simp
          with_reducible rfl
        rotate_left
        · simp only [Act.put, List.setIfInBounds_toArray, List.set_cons_zero, List.set_cons_succ]
          rfl
        refine take_ (i := 6) (N := some 144) (v := ?_) (a' := ?_) #[true, true, true, true, true, true, true, false, false, false, false, false, false, false, false, false, false, false, false, false, false, false, false, false, false, false, false, false, false, false, false, false, false, false, false, false, false, false, false, false, false] rfl rfl (by kernel_rfl) (fun _ _ _ h => by cases h.1) (Or.inl ⟨by rfl, ?_⟩) hS ?_ ?_
        rotate_left
        · intro w' hb
          have s0 := hb.cell k0
          have s1 := hb.cell k1
          have s2 := hb.cell k2
          have s3 := hb.cell k3
          have s4 := hb.cell k4
          have s5 := hb.cell k5
          have s6 := hb.cell k6
          have s7 := hb.cell k7
          have s8 := hb.cell k8
          have s9 := hb.cell k9
          have s10 := hb.cell k10
          have s11 := hb.cell k11
          go_simp
          with_reducible rfl
        rotate_left
        · simp only [Act.put, List.setIfInBounds_toArray, List.set_cons_zero, List.set_cons_succ]
          rfl
        refine pure_ (i := 9) (N := some 147) (v := ?_) (a' := ?_) #[true, true, true, true, true, true, true, false, false, true, false, false, false, false, false, false, false, false, false, false, false, false, false, false, false, false, false, false, false, false, false, false, false, false, false, false, false, false, false, false, false] rfl rfl (by kernel_rfl) (fun _ _ _ h => by cases h.1) (Or.inl ⟨by rfl, ?_⟩) ?_ ?_
        rotate_left
        · intro w'
          go_simp
          with_reducible rfl
        rotate_left
        · simp only [Act.put, List.setIfInBounds_toArray, List.set_cons_zero, List.set_cons_succ]
          rfl
        refine take_ (i := 10) (N := some 148) (v := ?_) (a' := ?_) #[true, true, true, true, true, true, true, false, false, true, true, false, false, false, false, false, false, false, false, false, false, false, false, false, false, false, false, false, false, false, false, false, false, false, false, false, false, false, false, false, false] rfl rfl (by kernel_rfl) (fun _ _ _ h => by cases h.1) (Or.inl ⟨by rfl, ?_⟩) hS ?_ ?_
        rotate_left
        · intro w' hb
          have s0 := hb.cell k3
          go_simp
          with_reducible rfl
        rotate_left
        · simp only [Act.put, List.setIfInBounds_toArray, List.set_cons_zero, List.set_cons_succ]
          rfl
        refine one_ (i := 7) (N := some 145) #[true, true, true, true, true, true, true, true, false, true, true, false, false, false, false, false, false, false, false, false, false, false, false, false, false, false, false, false, false, false, false, false, false, false, false, false, false, false, false, false, false] rfl rfl (by kernel_rfl) (by simp) (fun K hK => ?_)
        go_simp
        refine (prec_calls _ _ _ _ _ _ _ _ _ _ C _).mono ?_
        rintro e u7 ⟨rfl, hb⟩
        rw [← EP.out]
        have hS7 : Bz u2 u7 := Below.trans hS (hb.mono hS.size)
        refine hK.out _ _ hS7 (fun _ => ?_)
        clear hK K hb hS
        have hS := hS7
        refine pure_ (i := 8) (N := some 146) (v := ?_) (a' := ?_) #[true, true, true, true, true, true, true, true, true, true, true, false, false, false, false, false, false, false, false, false, false, false, false, false, false, false, false, false, false, false, false, false, false, false, false, false, false, false, false, false, false] rfl rfl (by kernel_rfl) (fun _ _ _ h => by cases h.1) (Or.inl ⟨by rfl, ?_⟩) ?_ ?_
        rotate_left
        · intro w'
          go_simp
          with_reducible rfl
        rotate_left
        · simp only [Act.put, List.setIfInBounds_toArray, List.set_cons_zero, List.set_cons_succ]
          rfl
        refine pure_ (i := 11) (N := some 149) (v := ?_) (a' := ?_) #[true, true, true, true, true, true, true, true, true, true, true, true, false, false, false, false, false, false, false, false, false, false, false, false, false, false, false, false, false, false, false, false, false, false, false, false, false, false, false, false, false] rfl rfl (by kernel_rfl) (fun _ _ _ h => by cases h.1) (Or.inl ⟨by rfl, ?_⟩) ?_ ?_
        rotate_left
        · intro w'
          go_simp
          with_reducible rfl
        rotate_left
        · simp only [Act.put, List.setIfInBounds_toArray, List.set_cons_zero, List.set_cons_succ]
          rfl
        refine pure_ (i := 12) (N := some 150) (v := ?_) (a' := ?_) #[true, true, true, true, true, true, true, true, true, true, true, true, true, false, false, false, false, false, false, false, false, false, false, false, false, false, false, false, false, false, false, false, false, false, false, false, false, false, false, false, false] rfl rfl (by kernel_rfl) (fun _ _ _ h => by cases h.1) (Or.inl ⟨by rfl, ?_⟩) ?_ ?_
        rotate_left
        · intro w'
          go_simp
          with_reducible rfl
        rotate_left
        · simp only [Act.put, List.setIfInBounds_toArray, List.set_cons_zero, List.set_cons_succ]
          rfl
        refine pure_ (i := 13) (N := some 151) (v := ?_) (a' := ?_) #[true, true, true, true, true, true, true, true, true, true, true, true, true, true, false, false, false, false, false, false, false, false, false, false, false, false, false, false, false, false, false, false, false, false, false, false, false, false, false, false, false] rfl rfl (by kernel_rfl) (fun _ _ _ h => by cases h.1) (Or.inl ⟨by rfl, ?_⟩) ?_ ?_
        rotate_left
        · intro w'
          go_simp
          with_reducible rfl
        rotate_left
        · simp only [Act.put, List.setIfInBounds_toArray, List.set_cons_zero, List.set_cons_succ]
          rfl
        refine pure_ (i := 14) (N := some 152) (v := ?_) (a' := ?_) #[true, true, true, true, true, true, true, true, true, true, true, true, true, true, true, false, false, false, false, false, false, false, false, false, false, false, false, false, false, false, false, false, false, false, false, false, false, false, false, false, false] rfl rfl (by kernel_rfl) (fun _ _ _ h => by cases h.1) (Or.inl ⟨by rfl, ?_⟩) ?_ ?_
        rotate_left
        · intro w'
          go_simp
          with_reducible rfl
        rotate_left
        · simp only [Act.put, List.setIfInBounds_toArray, List.set_cons_zero, List.set_cons_succ]
          rfl
        refine take_ (i := 15) (N := some 153) (v := ?_) (a' := ?_) #[true, true, true, true, true, true, true, true, true, true, true, true, true, true, true, true, false, false, false, false, false, false, false, false, false, false, false, false, false, false, false, false, false, false, false, false, false, false, false, false, false] rfl rfl (by kernel_rfl) (fun _ _ _ h => by cases h.1) (Or.inl ⟨by rfl, ?_⟩) hS ?_ ?_
        rotate_left
        · intro w' hb
          have s0 := hb.cell y2
          go_simp
          with_reducible rfl
        rotate_left
        · simp only [Act.put, List.setIfInBounds_toArray, List.set_cons_zero, List.set_cons_succ]
          rfl
        refine pure_ (i := 16) (N := some 154) (v := ?_) (a' := ?_) #[true, true, true, true, true, true, true, true, true, true, true, true, true, true, true, true, true, false, false, false, false, false, false, false, false, false, false, false, false, false, false, false, false, false, false, false, false, false, false, false, false] rfl rfl (by kernel_rfl) (fun _ _ _ h => by cases h.1) (Or.inl ⟨by rfl, ?_⟩) ?_ ?_
        rotate_left
        · intro w'
          go_simp
          with_reducible rfl
        rotate_left
        · simp only [Act.put, List.setIfInBounds_toArray, List.set_cons_zero, List.set_cons_succ]
          rfl
        refine pure_ (i := 17) (N := some 155) (v := ?_) (a' := ?_) #[true, true, true, true, true, true, true, true, true, true, true, true, true, true, true, true, true, true, false, false, false, false, false, false, false, false, false, false, false, false, false, false, false, false, false, false, false, false, false, false, false] rfl rfl (by kernel_rfl) (fun _ _ _ h => by cases h.1) (Or.inl ⟨by rfl, ?_⟩) ?_ ?_
        rotate_left
        · intro w'
          go_simp
          with_reducible rfl
        rotate_left
        · simp only [Act.put, List.setIfInBounds_toArray, List.set_cons_zero, List.set_cons_succ]
          rfl
        refine pure_ (i := 18) (N := some 156) (v := ?_) (a' := ?_) #[true, true, true, true, true, true, true, true, true, true, true, true, true, true, true, true, true, true, true, false, false, false, false, false, false, false, false, false, false, false, false, false, false, false, false, false, false, false, false, false, false] rfl rfl (by kernel_rfl) (fun _ _ _ h => by cases h.1) (Or.inl ⟨by rfl, ?_⟩) ?_ ?_
        rotate_left
        · intro w'
          go_simp
          with_reducible rfl
        rotate_left
        · simp only [Act.put, List.setIfInBounds_toArray, List.set_cons_zero, List.set_cons_succ]
          rfl
        refine pure_ (i := 19) (N := some 157) (v := ?_) (a' := ?_) #[true, true, true, true, true, true, true, true, true, true, true, true, true, true, true, true, true, true, true, true, false, false, false, false, false, false, false, false, false, false, false, false, false, false, false, false, false, false, false, false, false] rfl rfl (by kernel_rfl) (fun _ _ _ h => by cases h.1) (Or.inl ⟨by rfl, ?_⟩) ?_ ?_
        rotate_left
        · intro w'
          go_simp
          with_reducible rfl
        rotate_left
        · simp only [Act.put, List.setIfInBounds_toArray, List.set_cons_zero, List.set_cons_succ]
          rfl
        refine pure_ (i := 20) (N := some 158) (v := ?_) (a' := ?_) #[true, true, true, true, true, true, true, true, true, true, true, true, true, true, true, true, true, true, true, true, true, false, false, false, false, false, false, false, false, false, false, false, false, false, false, false, false, false, false, false, false] rfl rfl (by kernel_rfl) (fun _ _ _ h => by cases h.1) (Or.inl ⟨by rfl, ?_⟩) ?_ ?_
        rotate_left
        · intro w'
          go_simp
          with_reducible rfl
        rotate_left
        · simp only [Act.put, List.setIfInBounds_toArray, List.set_cons_zero, List.set_cons_succ]
          rfl
        refine pure_ (i := 21) (N := some 159) (v := ?_) (a' := ?_) #[true, true, true, true, true, true, true, true, true, true, true, true, true, true, true, true, true, true, true, true, true, true, false, false, false, false, false, false, false, false, false, false, false, false, false, false, false, false, false, false, false] rfl rfl (by kernel_rfl) (fun _ _ _ h => by cases h.1) (Or.inl ⟨by rfl, ?_⟩) ?_ ?_
        rotate_left
        · intro w'
          go_simp
          with_reducible rfl
        rotate_left
        · simp only [Act.put, List.setIfInBounds_toArray, List.set_cons_zero, List.set_cons_succ]
          rfl
        refine pure_ (i := 22) (N := some 160) (v := ?_) (a' := ?_) #[true, true, true, true, true, true, true, true, true, true, true, true, true, true, true, true, true, true, true, true, true, true, true, false, false, false, false, false, false, false, false, false, false, false, false, false, false, false, false, false, false] rfl rfl (by kernel_rfl) (fun _ _ _ h => by cases h.1) (Or.inl ⟨by rfl, ?_⟩) ?_ ?_
        rotate_left
        · intro w'
          go_simp
          with_reducible rfl
        rotate_left
        · simp only [Act.put, List.setIfInBounds_toArray, List.set_cons_zero, List.set_cons_succ]
          rfl
        refine pure_ (i := 23) (N := some 161) (v := ?_) (a' := ?_) #[true, true, true, true, true, true, true, true, true, true, true, true, true, true, true, true, true, true, true, true, true, true, true, true, false, false, false, false, false, false, false, false, false, false, false, false, false, false, false, false, false] rfl rfl (by kernel_rfl) (fun _ _ _ h => by cases h.1) (Or.inl ⟨by rfl, ?_⟩) ?_ ?_
        rotate_left
        · intro w'
          go_simp
          with_reducible rfl
        rotate_left
        · simp only [Act.put, List.setIfInBounds_toArray, List.set_cons_zero, List.set_cons_succ]
          rfl
        refine pure_ (i := 24) (N := some 162) (v := ?_) (a' := ?_) #[true, true, true, true, true, true, true, true, true, true, true, true, true, true, true, true, true, true, true, true, true, true, true, true, true, false, false, false, false, false, false, false, false, false, false, false, false, false, false, false, false] rfl rfl (by kernel_rfl) (fun _ _ _ h => by cases h.1) (Or.inl ⟨by rfl, ?_⟩) ?_ ?_
        rotate_left
        · intro w'
          go_simp
          with_reducible rfl
        rotate_left
        · simp only [Act.put, List.setIfInBounds_toArray, List.set_cons_zero, List.set_cons_succ]
          rfl
        refine take_ (i := 25) (N := some 163) (v := ?_) (a' := ?_) #[true, true, true, true, true, true, true, true, true, true, true, true, true, true, true, true, true, true, true, true, true, true, true, true, true, true, false, false, false, false, false, false, false, false, false, false, false, false, false, false, false] rfl rfl (by kernel_rfl) (fun _ _ _ h => by cases h.1) (Or.inl ⟨by rfl, ?_⟩) hS ?_ ?_
        rotate_left
        · intro w' hb
          have s0 := hb.cell y0
          go_simp
          with_reducible rfl
        rotate_left
        · simp only [Act.put, List.setIfInBounds_toArray, List.set_cons_zero, List.set_cons_succ]
          rfl
        refine pure_ (i := 26) (N := some 164) (v := ?_) (a' := ?_) #[true, true, true, true, true, true, true, true, true, true, true, true, true, true, true, true, true, true, true, true, true, true, true, true, true, true, true, false, false, false, false, false, false, false, false, false, false, false, false, false, false] rfl rfl (by kernel_rfl) (fun _ _ _ h => by cases h.1) (Or.inl ⟨by rfl, ?_⟩) ?_ ?_
        rotate_left
        · intro w'
          go_simp
          with_reducible rfl
        rotate_left
        · simp only [Act.put, List.setIfInBounds_toArray, List.set_cons_zero, List.set_cons_succ]
          rfl
        refine pure_ (i := 27) (N := some 165) (v := ?_) (a' := ?_) #[true, true, true, true, true, true, true, true, true, true, true, true, true, true, true, true, true, true, true, true, true, true, true, true, true, true, true, true, false, false, false, false, false, false, false, false, false, false, false, false, false] rfl rfl (by kernel_rfl) (fun _ _ _ h => by cases h.1) (Or.inl ⟨by rfl, ?_⟩) ?_ ?_
        rotate_left
        · intro w'
          go_simp
          with_reducible rfl
        rotate_left
        · simp only [Act.put, List.setIfInBounds_toArray, List.set_cons_zero, List.set_cons_succ]
          rfl
        refine pure_ (i := 28) (N := some 166) (v := undef) (a' := ?_) #[true, true, true, true, true, true, true, true, true, true, true, true, true, true, true, true, true, true, true, true, true, true, true, true, true, true, true, true, true, false, false, false, false, false, false, false, false, false, false, false, false] rfl rfl (by kernel_rfl) (fun _ _ _ h => by cases h.1) (Or.inr ⟨by rfl, rfl⟩) ?_ ?_
        rotate_left
        · simp only [Act.put, List.setIfInBounds_toArray, List.set_cons_zero, List.set_cons_succ]
          rfl
        refine pure_ (i := 29) (N := some 167) (v := undef) (a' := ?_) #[true, true, true, true, true, true, true, true, true, true, true, true, true, true, true, true, true, true, true, true, true, true, true, true, true, true, true, true, true, true, false, false, false, false, false, false, false, false, false, false, false] rfl rfl (by kernel_rfl) (fun _ _ _ h => by cases h.1) (Or.inr ⟨by rfl, rfl⟩) ?_ ?_
        rotate_left
        · simp only [Act.put, List.setIfInBounds_toArray, List.set_cons_zero, List.set_cons_succ]
          rfl
        refine pure_ (i := 30) (N := some 168) (v := undef) (a' := ?_) #[true, true, true, true, true, true, true, true, true, true, true, true, true, true, true, true, true, true, true, true, true, true, true, true, true, true, true, true, true, true, true, false, false, false, false, false, false, false, false, false, false] rfl rfl (by kernel_rfl) (fun _ _ _ h => by cases h.1) (Or.inr ⟨by rfl, rfl⟩) ?_ ?_
        rotate_left
        · simp only [Act.put, List.setIfInBounds_toArray, List.set_cons_zero, List.set_cons_succ]
          rfl
        refine pure_ (i := 31) (N := some 169) (v := undef) (a' := ?_) #[true, true, true, true, true, true, true, true, true, true, true, true, true, true, true, true, true, true, true, true, true, true, true, true, true, true, true, true, true, true, true, true, false, false, false, false, false, false, false, false, false] rfl rfl (by kernel_rfl) (fun _ _ _ h => by cases h.1) (Or.inr ⟨by rfl, rfl⟩) ?_ ?_
        rotate_left
        · simp only [Act.put, List.setIfInBounds_toArray, List.set_cons_zero, List.set_cons_succ]
          rfl
        refine pure_ (i := 32) (N := some 170) (v := undef) (a' := ?_) #[true, true, true, true, true, true, true, true, true, true, true, true, true, true, true, true, true, true, true, true, true, true, true, true, true, true, true, true, true, true, true, true, true, false, false, false, false, false, false, false, false] rfl rfl (by kernel_rfl) (fun _ _ _ h => by cases h.1) (Or.inr ⟨by rfl, rfl⟩) ?_ ?_
        rotate_left
        · simp only [Act.put, List.setIfInBounds_toArray, List.set_cons_zero, List.set_cons_succ]
          rfl
        refine pure_ (i := 33) (N := some 171) (v := undef) (a' := ?_) #[true, true, true, true, true, true, true, true, true, true, true, true, true, true, true, true, true, true, true, true, true, true, true, true, true, true, true, true, true, true, true, true, true, true, false, false, false, false, false, false, false] rfl rfl (by kernel_rfl) (fun _ _ _ h => by cases h.1) (Or.inr ⟨by rfl, rfl⟩) ?_ ?_
        rotate_left
        · simp only [Act.put, List.setIfInBounds_toArray, List.set_cons_zero, List.set_cons_succ]
          rfl
        refine pure_ (i := 34) (N := some 172) (v := undef) (a' := ?_) #[true, true, true, true, true, true, true, true, true, true, true, true, true, true, true, true, true, true, true, true, true, true, true, true, true, true, true, true, true, true, true, true, true, true, true, false, false, false, false, false, false] rfl rfl (by kernel_rfl) (fun _ _ _ h => by cases h.1) (Or.inr ⟨by rfl, rfl⟩) ?_ ?_
        rotate_left
        · simp only [Act.put, List.setIfInBounds_toArray, List.set_cons_zero, List.set_cons_succ]
          rfl
        refine pure_ (i := 35) (N := some 173) (v := undef) (a' := ?_) #[true, true, true, true, true, true, true, true, true, true, true, true, true, true, true, true, true, true, true, true, true, true, true, true, true, true, true, true, true, true, true, true, true, true, true, true, false, false, false, false, false] rfl rfl (by kernel_rfl) (fun _ _ _ h => by cases h.1) (Or.inr ⟨by rfl, rfl⟩) ?_ ?_
        rotate_left
        · simp only [Act.put, List.setIfInBounds_toArray, List.set_cons_zero, List.set_cons_succ]
          rfl
        refine pure_ (i := 36) (N := some 174) (v := undef) (a' := ?_) #[true, true, true, true, true, true, true, true, true, true, true, true, true, true, true, true, true, true, true, true, true, true, true, true, true, true, true, true, true, true, true, true, true, true, true, true, true, false, false, false, false] rfl rfl (by kernel_rfl) (fun _ _ _ h => by cases h.1) (Or.inr ⟨by rfl, rfl⟩) ?_ ?_
        rotate_left
        · simp only [Act.put, List.setIfInBounds_toArray, List.set_cons_zero, List.set_cons_succ]
          rfl
        refine pure_ (i := 37) (N := some 175) (v := undef) (a' := ?_) #[true, true, true, true, true, true, true, true, true, true, true, true, true, true, true, true, true, true, true, true, true, true, true, true, true, true, true, true, true, true, true, true, true, true, true, true, true, true, false, false, false] rfl rfl (by kernel_rfl) (fun _ _ _ h => by cases h.1) (Or.inr ⟨by rfl, rfl⟩) ?_ ?_
        rotate_left
        · simp only [Act.put, List.setIfInBounds_toArray, List.set_cons_zero, List.set_cons_succ]
          rfl
        refine pure_ (i := 38) (N := some 176) (v := undef) (a' := ?_) #[true, true, true, true, true, true, true, true, true, true, true, true, true, true, true, true, true, true, true, true, true, true, true, true, true, true, true, true, true, true, true, true, true, true, true, true, true, true, true, false, false] rfl rfl (by kernel_rfl) (fun _ _ _ h => by cases h.1) (Or.inr ⟨by rfl, rfl⟩) ?_ ?_
        rotate_left
        · simp only [Act.put, List.setIfInBounds_toArray, List.set_cons_zero, List.set_cons_succ]
          rfl
        refine pure_ (i := 39) (N := some 177) (v := ?_) (a' := ?_) #[true, true, true, true, true, true, true, true, true, true, true, true, true, true, true, true, true, true, true, true, true, true, true, true, true, true, true, true, true, true, true, true, true, true, true, true, true, true, true, true, false] rfl rfl (by kernel_rfl) (fun _ _ _ h => by cases h.1) (Or.inl ⟨by rfl, ?_⟩) ?_ ?_
        rotate_left
        · intro w'
          go_simp
          with_reducible rfl
        rotate_left
        · simp only [Act.put, List.setIfInBounds_toArray, List.set_cons_zero, List.set_cons_succ]
          rfl
        refine pure_ (i := 40) (N := some 178) (v := ?_) (a' := ?_) #[true, true, true, true, true, true, true, true, true, true, true, true, true, true, true, true, true, true, true, true, true, true, true, true, true, true, true, true, true, true, true, true, true, true, true, true, true, true, true, true, true] rfl rfl (by kernel_rfl) (fun _ _ _ h => by cases h.1) (Or.inl ⟨by rfl, ?_⟩) ?_ ?_
        rotate_left
        · intro w'
          go_simp
          with_reducible rfl
        rotate_left
        · simp only [Act.put, List.setIfInBounds_toArray, List.set_cons_zero, List.set_cons_succ]
          rfl
        refine done_ (by kernel_rfl) ?_
        exact ⟨rfl, rfl, hS⟩
      clear w1 w2 d1' d2'
      intro W9 hb
      replace HB := Lib.hid (below_step HB.out hb)
      replace H0 := Lib.hid (blk_keep hb H0.out)
      clear hb k0 k1 k2 k3 k4 k5 k6 k7 k8 k9 k10 k11 y0 y2
      obtain ⟨k0, k1, k2, k3, k4, k5, k6, k7, k8, k9, k10, k11⟩ := cfg_cells H0.out
      go_wp2_with fail
      refine (check_calls _ _ _ _ _ _ _ _ _ _ C _ (HR.out.below HB.out)).mono ?_
      rintro e u3 ⟨rfl, hb⟩
      rw [EC.out]
      replace HB := Lib.hid (below_step HB.out hb)
      clear hb
      go_wp2
      go_ret
      exact ⟨rfl, HB.out⟩
  as_aux_lemma =>
  have g0 : (f == 0) = false := beq_eq_false_iff_ne.2 f0
  have g1 : (f == 1) = false := beq_eq_false_iff_ne.2 f1
  have g2 : (f == 2) = false := beq_eq_false_iff_ne.2 f2
  have g3 : (f == 3) = false := beq_eq_false_iff_ne.2 f3
  have g4 : (f == 4) = false := beq_eq_false_iff_ne.2 f4
  have g5 : (f == 5) = false := beq_eq_false_iff_ne.2 f5
  have g6 : (f == 6) = false := beq_eq_false_iff_ne.2 f6
  by_cases hp : 0 < C.f11.length
  · go_wp2_with fail
    refine wp_region_still_tail 11 (by kernel_rfl) (by kernel_rfl) ?_
    simp only [List.take_succ_cons, List.take_zero, List.drop_succ_cons, List.drop_zero]
    change wpStill _ _ (W2.alloc (Obj.cells #[.int .i64 C.f0, .slice B1 C.f1.length d1, .int .i64 C.f2, .int .i64 C.f3, .int .i64 C.f4, .int .i64 C.f5, .int .i64 C.f6, .int .i64 C.f7, .slice B8 C.f8.length d8, .slice B9 C.f9.length d9, .slice B10 C.f10.length d10, .slice B11 C.f11.length d11] 29)).drew _ _ _
    clear m0 m1 m2 m3 m4 m5 m6 m7 m8 m9 m10 m11 y0 y1 y2
    have hbd : Below (W2.alloc (Obj.cells #[.int .i64 C.f0, .slice B1 C.f1.length d1, .int .i64 C.f2, .int .i64 C.f3, .int .i64 C.f4, .int .i64 C.f5, .int .i64 C.f6, .int .i64 C.f7, .slice B8 C.f8.length d8, .slice B9 C.f9.length d9, .slice B10 C.f10.length d10, .slice B11 C.f11.length d11] 29)).heap.size (W2.alloc (Obj.cells #[.int .i64 C.f0, .slice B1 C.f1.length d1, .int .i64 C.f2, .int .i64 C.f3, .int .i64 C.f4, .int .i64 C.f5, .int .i64 C.f6, .int .i64 C.f7, .slice B8 C.f8.length d8, .slice B9 C.f9.length d9, .slice B10 C.f10.length d10, .slice B11 C.f11.length d11] 29)) (W2.alloc (Obj.cells #[.int .i64 C.f0, .slice B1 C.f1.length d1, .int .i64 C.f2, .int .i64 C.f3, .int .i64 C.f4, .int .i64 C.f5, .int .i64 C.f6, .int .i64 C.f7, .slice B8 C.f8.length d8, .slice B9 C.f9.length d9, .slice B10 C.f10.length d10, .slice B11 C.f11.length d11] 29)).drew := (Below.refl _ _).drew
    replace HO := Lib.hid (HO.out.below _ _ _ _ _ _ _ _ _ _ hbd)
    replace H0 := Lib.hid (blk_keep hbd H0.out)
    replace HX := Lib.hid (blk_keep hbd HX.out)
    replace HD := Lib.hid (blk_keep hbd HD.out)
    replace HB := Lib.hid (below_step HB.out hbd)
    clear hbd
    generalize hV1 : (W2.alloc (Obj.cells #[.int .i64 C.f0, .slice B1 C.f1.length d1, .int .i64 C.f2, .int .i64 C.f3, .int .i64 C.f4, .int .i64 C.f5, .int .i64 C.f6, .int .i64 C.f7, .slice B8 C.f8.length d8, .slice B9 C.f9.length d9, .slice B10 C.f10.length d10, .slice B11 C.f11.length d11] 29)).drew = V1 at *
    have y2 : V1.cell? ⟨w.heap.size + 1, 2, none⟩ = some (.int .i64 x) := blk_cell HX.out 2
    obtain ⟨ix, hix⟩ : ∃ i : Nat, (i : Int) = at_ % C.f11.length := ⟨(at_ % C.f11.length).toNat, by have := Int.emod_nonneg at_ (show (C.f11.length : Int) ≠ 0 by omega); omega⟩
    have hil : ix < C.f11.length := by have := Int.emod_lt_of_pos at_ (show (0 : Int) < C.f11.length by omega); omega
    have p1 : ¬ C.f11 = [] := fun h => by rw [h] at hil; simp at hil
    have e1 : at_.tmod (C.f11.length : Int) = (ix : Int) := by rw [Int.tmod_eq_emod_of_nonneg n0]; exact hix.symm
    clear hix
    obtain ⟨g, v, hA, hg, ⟨cells, hcg⟩, hv, hf, hN⟩ := spoil7 HO.out ix hil
    subst hA
    obtain ⟨l, hl, hN1⟩ := hN x
    have HN := Lib.hid hN1
    have HL := Lib.hid hl
    clear hN hN1 hl
    obtain ⟨m1, m2⟩ : V1.cell? ⟨W2.heap.size, 11, none⟩ = some (.slice (some ⟨g, 0, none⟩) C.f11.length d11) ∧ True := ⟨blk_cell HD.out 11, trivial⟩
    have hne0 : w.heap.size ≠ g := by have := HLT.out; omega
    have hneX : w.heap.size + 1 ≠ g := by have := HLT.out; omega
    have hneD : W2.heap.size ≠ g := by
      intro he
      have h1 := HD.out
      rw [he, hcg] at h1
      cases h1
    replace H0 := Lib.hid (blk_far H0.out (p := ⟨g, ix * 3, none⟩) hne0 (.int .i64 x))
    replace HX := Lib.hid (blk_far HX.out (p := ⟨g, ix * 3, none⟩) hneX (.int .i64 x))
    have HD2 := Lib.hid (blk_far HD.out (p := ⟨g, ix * 3, none⟩) hneD (.int .i64 x))
    replace HB := Lib.hid (HB.out.setCell (p := ⟨g, ix * 3, none⟩) (by have := HLT.out; show w.heap.size ≤ g; omega) (.int .i64 x))
    obtain ⟨t0, t1, t2, t3, t4, t5, t6, t7, t8, t9, t10, t11⟩ := cfg_cells HD2.out
    clear hne0 hneX hneD hcg hg
    repeat still_step
    refine wpStill_nil ?_
    change wpList _ _ _ _ _ (W2.alloc _).drew
    rw [hV1]
    go_wp2_with fail
    clear t0 t1 t2 t3 t4 t5 t6 t7 t8 t9 t10 t11 HD2
    refine (ck_of _ _ _ _ _ _ _ _ _ _ HN.out rfl rfl rfl rfl HL.out).mono ?_
    have HR2 := Lib.hid (checkN_26 HALL.out.1 HALL.out.2.1 HALL.out.2.2.1 HALL.out.2.2.2.1 HALL.out.2.2.2.2.1 : checkN { C with f11 := l } = 0 ∨ 26 ≤ checkN { C with f11 := l } ∧ checkN { C with f11 := l } ≤ 26)
    rintro e u2 ⟨rfl, hb⟩
    replace H0 := Lib.hid (blk_keep hb H0.out)
    replace HX := Lib.hid (blk_keep hb HX.out)
    replace HB := Lib.hid (below_step HB.out hb)
    clear hb
    generalize checkN { C with f11 := l } = q at *
    have y0 := blk_cell HX.out 0
    have y2 := blk_cell HX.out 2
    obtain ⟨k0, k1, k2, k3, k4, k5, k6, k7, k8, k9, k10, k11⟩ := cfg_cells H0.out
    rcases HR2.out with hq | ⟨hq1, hq2⟩
    · subst hq
      go_wp2_with fail
      go_quiet (fail)
      go_wp2_with fail
      refine (check_calls _ _ _ _ _ _ _ _ _ _ C _ ((HR.out.below HB.out).below (pw_below_drewN (Below.refl _ _) _))).mono ?_
      rintro e u3 ⟨rfl, hb⟩
      rw [EC.out]
      replace HB := Lib.hid (below_step (below_step HB.out (pw_below_drewN (Below.refl _ _) _)) hb)
      clear hb
      go_wp2
      go_ret
      exact ⟨rfl, HB.out⟩
    · go_wp2_with fail
      go_quiet (fail)
      have q0 : (q == 0) = false := beq_eq_false_iff_ne.2 (by omega)
      go_wp2_with fail
      refine (check_calls _ _ _ _ _ _ _ _ _ _ C _ ((HR.out.below HB.out).below (pw_below_drewN (Below.refl _ _) _))).mono ?_
      rintro e u3 ⟨rfl, hb⟩
      rw [EC.out]
      replace HB := Lib.hid (below_step (below_step HB.out (pw_below_drewN (Below.refl _ _) _)) hb)
      clear hb
      go_wp2
      go_ret
      exact ⟨rfl, HB.out⟩
  · have hp0 : C.f11 = [] := List.eq_nil_of_length_eq_zero (by omega)
    have p0 : ((C.f11.length : Int) == 0) = true := by rw [hp0]; rfl
    have p2 : decide (0 < (C.f11.length : Int)) = false := decide_eq_false (by omega)
    clear hp0
    go_wp2_with fail
    refine (check_calls B1 B8 B9 B10 B11 d1 d8 d9 d10 d11 C _ (HO.out.in_ _ _ _ _ _ _ _ _ _ _)).mono ?_
    rintro e u2 ⟨rfl, hb⟩
    rw [EC.out]
    replace H0 := Lib.hid (blk_keep hb H0.out)
    replace HX := Lib.hid (blk_keep hb HX.out)
    replace HB := Lib.hid (below_step HB.out hb)
    clear hb m0 m1 m2 m3 m4 m5 m6 m7 m8 m9 m10 m11 y0 y1 y2
    have y0 := blk_cell HX.out 0
    have y2 := blk_cell HX.out 2
    obtain ⟨k0, k1, k2, k3, k4, k5, k6, k7, k8, k9, k10, k11⟩ := cfg_cells H0.out
    go_wp2_with fail
    go_quiet (fail)
    go_wp2_with fail
    refine (check_calls _ _ _ _ _ _ _ _ _ _ C _ ((HR.out.below HB.out).below (pw_below_drewN (Below.refl _ _) _))).mono ?_
    rintro e u3 ⟨rfl, hb⟩
    rw [EC.out]
    replace HB := Lib.hid (below_step (below_step HB.out (pw_below_drewN (Below.refl _ _) _)) hb)
    clear hb
    go_wp2
    go_ret
    exact ⟨rfl, HB.out⟩
end Go.Proofs.Ytehbabkgaecoaaa
