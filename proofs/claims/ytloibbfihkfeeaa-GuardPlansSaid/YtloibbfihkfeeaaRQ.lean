/- The walk of GuardPlans. -/
import Derived.Test.YtloibbfihkfeeaaRP
namespace Go.Proofs.Ytloibbfihkfeeaa
set_option linter.unusedVariables false
set_option linter.unusedSimpArgs false
open Go.RowKit Go.Shelf Go.Proofs.YtloibbfihkfeeaaW.PrintWords Go.Proofs.YtloibbfihkfeeaaW.PrintLast

set_option maxRecDepth 100000 in
set_option maxHeartbeats 16000000 in
theorem plans_calls (A1 A8 A9 A10 A11 : Option Addr) (c1 c8 c9 c10 c11 : Nat) (C : S28) (w : World) (h : CfgIn w C A1 A8 A9 A10 A11 c1 c8 c9 c10 c11) (hC : CfgOk C) (hz : SzOk C) (length offset slot : Int) (x : Sh) :
    Calls Try.prog 3 #[.agg #[.int .i64 C.f0, .slice A1 C.f1.length c1, .int .i64 C.f2, .int .i64 C.f3, .int .i64 C.f4, .int .i64 C.f5, .int .i64 C.f6, .int .i64 C.f7, .slice A8 C.f8.length c8, .slice A9 C.f9.length c9, .slice A10 C.f10.length c10, .slice A11 C.f11.length c11], .agg #[.int .i64 length, .int .i64 offset], .agg #[.int .i64 slot, .int .i64 x.f0, .int .i64 x.f1, .int .i64 x.f2]] w fun e w' => e = .returned (.bool true) ∧ Below w.heap.size w w' := by
  have HR := Lib.hid h
  have HCO := Lib.hid hC
  have HSZ := Lib.hid hz
  have HB := Lib.hid (show Below w.heap.size w (((w.alloc (Obj.cells #[.int .i64 C.f0, .slice A1 C.f1.length c1, .int .i64 C.f2, .int .i64 C.f3, .int .i64 C.f4, .int .i64 C.f5, .int .i64 C.f6, .int .i64 C.f7, .slice A8 C.f8.length c8, .slice A9 C.f9.length c9, .slice A10 C.f10.length c10, .slice A11 C.f11.length c11] 28)).alloc (Obj.cells #[.int .i64 length, .int .i64 offset] 30)).alloc (Obj.cells #[.int .i64 slot, .int .i64 x.f0, .int .i64 x.f1, .int .i64 x.f2] 34)) from (((Below.refl _ _).alloc (Nat.le_refl _) _).alloc (by simp) _).alloc (by simp; omega) _)
  have HC := Lib.hid (blk_alloc (blk_alloc (blk_new w (Obj.cells #[.int .i64 C.f0, .slice A1 C.f1.length c1, .int .i64 C.f2, .int .i64 C.f3, .int .i64 C.f4, .int .i64 C.f5, .int .i64 C.f6, .int .i64 C.f7, .slice A8 C.f8.length c8, .slice A9 C.f9.length c9, .slice A10 C.f10.length c10, .slice A11 C.f11.length c11] 28)) (Obj.cells #[.int .i64 length, .int .i64 offset] 30)) (Obj.cells #[.int .i64 slot, .int .i64 x.f0, .int .i64 x.f1, .int .i64 x.f2] 34))
  have HK := Lib.hid (show (((w.alloc (Obj.cells #[.int .i64 C.f0, .slice A1 C.f1.length c1, .int .i64 C.f2, .int .i64 C.f3, .int .i64 C.f4, .int .i64 C.f5, .int .i64 C.f6, .int .i64 C.f7, .slice A8 C.f8.length c8, .slice A9 C.f9.length c9, .slice A10 C.f10.length c10, .slice A11 C.f11.length c11] 28)).alloc (Obj.cells #[.int .i64 length, .int .i64 offset] 30)).alloc (Obj.cells #[.int .i64 slot, .int .i64 x.f0, .int .i64 x.f1, .int .i64 x.f2] 34)).heap[w.heap.size + 1]? = some (Obj.cells #[.int .i64 length, .int .i64 offset] 30) from blk_alloc (blk_new_at _ _ (by simp)) _)
  have HO := Lib.hid (show (((w.alloc (Obj.cells #[.int .i64 C.f0, .slice A1 C.f1.length c1, .int .i64 C.f2, .int .i64 C.f3, .int .i64 C.f4, .int .i64 C.f5, .int .i64 C.f6, .int .i64 C.f7, .slice A8 C.f8.length c8, .slice A9 C.f9.length c9, .slice A10 C.f10.length c10, .slice A11 C.f11.length c11] 28)).alloc (Obj.cells #[.int .i64 length, .int .i64 offset] 30)).alloc (Obj.cells #[.int .i64 slot, .int .i64 x.f0, .int .i64 x.f1, .int .i64 x.f2] 34)).heap[w.heap.size + 1 + 1]? = some (Obj.cells #[.int .i64 slot, .int .i64 x.f0, .int .i64 x.f1, .int .i64 x.f2] 34) from blk_new_at _ _ (by simp))
  clear h hC hz
  obtain ⟨gr, hgr⟩ : ∃ gr, gr = greatB C := ⟨_, rfl⟩
  have HG := Lib.hid hgr
  clear hgr
  go_enter Try.func3, Try.ntmps3
  go_wp2_with fail
  refine (great_calls _ _ _ _ _ _ _ _ _ _ C _ (HR.out.below HB.out)).mono ?_
  rintro e W1 ⟨rfl, hb⟩
  rw [← HG.out]
  replace HC := Lib.hid (blk_keep hb HC.out)
  replace HK := Lib.hid (blk_keep hb HK.out)
  replace HO := Lib.hid (blk_keep hb HO.out)
  replace HB := Lib.hid (below_step HB.out hb)
  clear hb
  cases gr
  case true =>
    go_wp2
    go_ret
    exact ⟨rfl, HB.out⟩
  obtain ⟨g0, g1, g2, g3, g4, g5, g6, g7, g8, g9, g10, g11⟩ := cfg_cells HC.out
  go_wp2_with fail
  refine (twin_calls _ _ _ _ _ _ _ _ _ _ C _ (HR.out.below HB.out) HSZ.out).mono ?_
  rintro e W2 ⟨B1, B8, B9, B10, B11, d1, d8, d9, d10, d11, rfl, hin, hb⟩
  clear g0 g1 g2 g3 g4 g5 g6 g7 g8 g9 g10 g11
  have hba : Below W2.heap.size W2 (W2.alloc (Obj.cells #[.int .i64 C.f0, .slice B1 C.f1.length d1, .int .i64 C.f2, .int .i64 C.f3, .int .i64 C.f4, .int .i64 C.f5, .int .i64 C.f6, .int .i64 C.f7, .slice B8 C.f8.length d8, .slice B9 C.f9.length d9, .slice B10 C.f10.length d10, .slice B11 C.f11.length d11] 28)) := (Below.refl _ _).alloc (Nat.le_refl _) _
  have hbb : Below _ _ (W2.alloc (Obj.cells #[.int .i64 C.f0, .slice B1 C.f1.length d1, .int .i64 C.f2, .int .i64 C.f3, .int .i64 C.f4, .int .i64 C.f5, .int .i64 C.f6, .int .i64 C.f7, .slice B8 C.f8.length d8, .slice B9 C.f9.length d9, .slice B10 C.f10.length d10, .slice B11 C.f11.length d11] 28)) := below_step hb hba
  replace HC := Lib.hid (blk_keep hbb HC.out)
  replace HK := Lib.hid (blk_keep hbb HK.out)
  replace HO := Lib.hid (blk_keep hbb HO.out)
  have HD := Lib.hid (blk_new W2 (Obj.cells #[.int .i64 C.f0, .slice B1 C.f1.length d1, .int .i64 C.f2, .int .i64 C.f3, .int .i64 C.f4, .int .i64 C.f5, .int .i64 C.f6, .int .i64 C.f7, .slice B8 C.f8.length d8, .slice B9 C.f9.length d9, .slice B10 C.f10.length d10, .slice B11 C.f11.length d11] 28))
  have HIN := Lib.hid (hin.below hba)
  replace HB := Lib.hid (below_step HB.out hbb)
  clear hb hba hbb hin
  obtain ⟨r, hr⟩ : ∃ r, r = planW C length slot offset := ⟨_, rfl⟩
  have HRR := Lib.hid hr
  clear hr
  obtain ⟨g0, g1, g2, g3, g4, g5, g6, g7, g8, g9, g10, g11⟩ := cfg_cells HC.out
  obtain ⟨k0, k1, k2, k3, k4, k5, k6, k7, k8, k9, k10, k11⟩ := cfg_cells HD.out
  have t0 := blk_cell HK.out 0
  have t1 := blk_cell HK.out 1
  have o0 := blk_cell HO.out 0
  have o1 := blk_cell HO.out 1
  have o2 := blk_cell HO.out 2
  have o3 := blk_cell HO.out 3
  go_wp2_with fail
  generalize hWA : W2.alloc (Obj.cells #[.int .i64 C.f0, .slice B1 C.f1.length d1, .int .i64 C.f2, .int .i64 C.f3, .int .i64 C.f4, .int .i64 C.f5, .int .i64 C.f6, .int .i64 C.f7, .slice B8 C.f8.length d8, .slice B9 C.f9.length d9, .slice B10 C.f10.length d10, .slice B11 C.f11.length d11] 28) = WA at *
  generalize W2.heap.size = db at *
  clear hWA
  refine (plan_calls B1 B8 B9 B10 B11 d1 d8 d9 d10 d11 C _ HIN.out length slot offset).mono ?_
  rintro e W3 ⟨rfl, hb⟩
  rw [← HRR.out]
  clear g0 g1 g2 g3 g4 g5 g6 g7 g8 g9 g10 g11 k0 k1 k2 k3 k4 k5 k6 k7 k8 k9 k10 k11 t0 t1 o0 o1 o2 o3
  replace HC := Lib.hid (blk_keep hb HC.out)
  replace HK := Lib.hid (blk_keep hb HK.out)
  replace HO := Lib.hid (blk_keep hb HO.out)
  replace HD := Lib.hid (blk_keep hb HD.out)
  replace HIN := Lib.hid (HIN.out.below hb)
  replace HB := Lib.hid (below_step HB.out hb)
  clear hb
  have hba : Below W3.heap.size W3 (W3.alloc (Obj.cells #[.int .i64 r.1.f0, .int .i64 r.1.f1, .int .i64 r.1.f2] 32)) := (Below.refl _ _).alloc (Nat.le_refl _) _
  have HP := Lib.hid (blk_new W3 (Obj.cells #[.int .i64 r.1.f0, .int .i64 r.1.f1, .int .i64 r.1.f2] 32))
  have hb := hba
  replace HC := Lib.hid (blk_keep hb HC.out)
  replace HK := Lib.hid (blk_keep hb HK.out)
  replace HO := Lib.hid (blk_keep hb HO.out)
  replace HD := Lib.hid (blk_keep hb HD.out)
  replace HIN := Lib.hid (HIN.out.below hb)
  replace HB := Lib.hid (below_step HB.out hb)
  clear hb hba
  obtain ⟨g0, g1, g2, g3, g4, g5, g6, g7, g8, g9, g10, g11⟩ := cfg_cells HC.out
  obtain ⟨k0, k1, k2, k3, k4, k5, k6, k7, k8, k9, k10, k11⟩ := cfg_cells HD.out
  have t0 := blk_cell HK.out 0
  have t1 := blk_cell HK.out 1
  have o0 := blk_cell HO.out 0
  have o1 := blk_cell HO.out 1
  have o2 := blk_cell HO.out 2
  have o3 := blk_cell HO.out 3
  go_wp2_with fail
  generalize hWB : W3.alloc (Obj.cells #[.int .i64 r.1.f0, .int .i64 r.1.f1, .int .i64 r.1.f2] 32) = WB at *
  generalize W3.heap.size = pb at *
  clear hWB
  refine (rplan_calls _ _ _ _ _ _ _ _ _ _ C _ (HR.out.below HB.out) HCO.out HSZ.out length slot offset).mono ?_
  rintro e W4 ⟨rfl, hb⟩
  rw [← HRR.out]
  clear g0 g1 g2 g3 g4 g5 g6 g7 g8 g9 g10 g11 k0 k1 k2 k3 k4 k5 k6 k7 k8 k9 k10 k11 t0 t1 o0 o1 o2 o3
  replace HC := Lib.hid (blk_keep hb HC.out)
  replace HK := Lib.hid (blk_keep hb HK.out)
  replace HO := Lib.hid (blk_keep hb HO.out)
  replace HD := Lib.hid (blk_keep hb HD.out)
  replace HIN := Lib.hid (HIN.out.below hb)
  replace HB := Lib.hid (below_step HB.out hb)
  replace HP := Lib.hid (blk_keep hb HP.out)
  clear hb
  have hba : Below W4.heap.size W4 (W4.alloc (Obj.cells #[.int .i64 r.1.f0, .int .i64 r.1.f1, .int .i64 r.1.f2] 32)) := (Below.refl _ _).alloc (Nat.le_refl _) _
  have HQ := Lib.hid (blk_new W4 (Obj.cells #[.int .i64 r.1.f0, .int .i64 r.1.f1, .int .i64 r.1.f2] 32))
  have hb := hba
  replace HC := Lib.hid (blk_keep hb HC.out)
  replace HK := Lib.hid (blk_keep hb HK.out)
  replace HO := Lib.hid (blk_keep hb HO.out)
  replace HD := Lib.hid (blk_keep hb HD.out)
  replace HIN := Lib.hid (HIN.out.below hb)
  replace HB := Lib.hid (below_step HB.out hb)
  replace HP := Lib.hid (blk_keep hb HP.out)
  clear hb hba
  obtain ⟨g0, g1, g2, g3, g4, g5, g6, g7, g8, g9, g10, g11⟩ := cfg_cells HC.out
  obtain ⟨k0, k1, k2, k3, k4, k5, k6, k7, k8, k9, k10, k11⟩ := cfg_cells HD.out
  have t0 := blk_cell HK.out 0
  have t1 := blk_cell HK.out 1
  have o0 := blk_cell HO.out 0
  have o1 := blk_cell HO.out 1
  have o2 := blk_cell HO.out 2
  have o3 := blk_cell HO.out 3
  have p0 := blk_cell HP.out 0
  have p1 := blk_cell HP.out 1
  have p2 := blk_cell HP.out 2
  have q0 := blk_cell HQ.out 0
  have q1 := blk_cell HQ.out 1
  have q2 := blk_cell HQ.out 2
  obtain ⟨m, hm⟩ : ∃ m, m = mayW C length offset [x] := ⟨_, rfl⟩
  have HM := Lib.hid hm
  clear hm
  go_wp2_with fail
  generalize hWC : W4.alloc (Obj.cells #[.int .i64 r.1.f0, .int .i64 r.1.f1, .int .i64 r.1.f2] 32) = WC at *
  generalize W4.heap.size = qb at *
  clear hWC p0 p1 p2 q0 q1 q2
  refine (slot_calls B1 B8 B9 B10 B11 d1 d8 d9 d10 d11 C _ HIN.out length offset x).mono ?_
  rintro e W5 ⟨rfl, hb⟩
  obtain ⟨at_, hat⟩ : ∃ v, v = (if mayW C length offset [x] = 0 then liesW length offset x else 0) := ⟨_, rfl⟩
  rw [← hat, ← HM.out]
  have HAT := Lib.hid hat
  clear hat
  clear g0 g1 g2 g3 g4 g5 g6 g7 g8 g9 g10 g11 k0 k1 k2 k3 k4 k5 k6 k7 k8 k9 k10 k11 t0 t1 o0 o1 o2 o3
  replace HC := Lib.hid (blk_keep hb HC.out)
  replace HK := Lib.hid (blk_keep hb HK.out)
  replace HO := Lib.hid (blk_keep hb HO.out)
  replace HD := Lib.hid (blk_keep hb HD.out)
  replace HIN := Lib.hid (HIN.out.below hb)
  replace HB := Lib.hid (below_step HB.out hb)
  clear hb
  obtain ⟨g0, g1, g2, g3, g4, g5, g6, g7, g8, g9, g10, g11⟩ := cfg_cells HC.out
  obtain ⟨k0, k1, k2, k3, k4, k5, k6, k7, k8, k9, k10, k11⟩ := cfg_cells HD.out
  have t0 := blk_cell HK.out 0
  have t1 := blk_cell HK.out 1
  have o0 := blk_cell HO.out 0
  have o1 := blk_cell HO.out 1
  have o2 := blk_cell HO.out 2
  have o3 := blk_cell HO.out 3
  go_wp2_with fail
  refine (verdict_calls B1 B8 B9 B10 B11 d1 d8 d9 d10 d11 C _ HIN.out length offset x).mono ?_
  rintro e W6 ⟨rfl, hb⟩
  obtain ⟨vv, hvv⟩ : ∃ v, v = (if mayW C length offset [x] = 0 then verdictW C length offset x else 0) := ⟨_, rfl⟩
  rw [← hvv, ← HM.out]
  have HVV := Lib.hid hvv
  clear hvv
  clear g0 g1 g2 g3 g4 g5 g6 g7 g8 g9 g10 g11 k0 k1 k2 k3 k4 k5 k6 k7 k8 k9 k10 k11 t0 t1 o0 o1 o2 o3
  replace HC := Lib.hid (blk_keep hb HC.out)
  replace HK := Lib.hid (blk_keep hb HK.out)
  replace HO := Lib.hid (blk_keep hb HO.out)
  replace HD := Lib.hid (blk_keep hb HD.out)
  replace HIN := Lib.hid (HIN.out.below hb)
  replace HB := Lib.hid (below_step HB.out hb)
  clear hb
  obtain ⟨g0, g1, g2, g3, g4, g5, g6, g7, g8, g9, g10, g11⟩ := cfg_cells HC.out
  obtain ⟨k0, k1, k2, k3, k4, k5, k6, k7, k8, k9, k10, k11⟩ := cfg_cells HD.out
  have t0 := blk_cell HK.out 0
  have t1 := blk_cell HK.out 1
  have o0 := blk_cell HO.out 0
  have o1 := blk_cell HO.out 1
  have o2 := blk_cell HO.out 2
  have o3 := blk_cell HO.out 3
  go_wp2_with fail
  have hba : Below W6.heap.size W6 (W6.alloc (Obj.cells #[.int .i64 x.f0, .int .i64 x.f1, .int .i64 x.f2] 32)) := (Below.refl _ _).alloc (Nat.le_refl _) _
  refine (rmay_calls _ _ _ _ _ _ _ _ _ _ C _ ((HR.out.below HB.out).below hba) HCO.out HSZ.out length offset _ 1 [x] (one_shot _ x)).mono ?_
  rintro e W7 ⟨rfl, hb'⟩
  have hb := below_step hba hb'
  rw [← HM.out]
  clear g0 g1 g2 g3 g4 g5 g6 g7 g8 g9 g10 g11 k0 k1 k2 k3 k4 k5 k6 k7 k8 k9 k10 k11 t0 t1 o0 o1 o2 o3
  replace HC := Lib.hid (blk_keep hb HC.out)
  replace HK := Lib.hid (blk_keep hb HK.out)
  replace HO := Lib.hid (blk_keep hb HO.out)
  replace HD := Lib.hid (blk_keep hb HD.out)
  replace HIN := Lib.hid (HIN.out.below hb)
  replace HB := Lib.hid (below_step HB.out hb)
  clear hb hb' hba
  by_cases h0 : m = 0
  case neg =>
    have e0 : (m != 0) = true := by simpa using h0
    have ha : at_ = 0 := by rw [HAT.out, if_neg (by rw [← HM.out]; exact h0)]
    have hv : vv = 0 := by rw [HVV.out, if_neg (by rw [← HM.out]; exact h0)]
    subst ha
    subst hv
    clear h0
    go_wp2
    go_ret
    exact ⟨rfl, HB.out⟩
  subst h0
  obtain ⟨-, m1, m2, m3, m4, -, m5⟩ := may_bounds HM.out.symm
  have hx := Lib.hid (show shotOk x = true by simpa using m5)
  have HAT2 := Lib.hid (show liesW length offset x = at_ by rw [HAT.out, if_pos HM.out.symm])
  have HVV2 := Lib.hid (show verdictW C length offset x = vv by rw [HVV.out, if_pos HM.out.symm])
  clear m5
  obtain ⟨g0, g1, g2, g3, g4, g5, g6, g7, g8, g9, g10, g11⟩ := cfg_cells HC.out
  obtain ⟨k0, k1, k2, k3, k4, k5, k6, k7, k8, k9, k10, k11⟩ := cfg_cells HD.out
  have t0 := blk_cell HK.out 0
  have t1 := blk_cell HK.out 1
  have o0 := blk_cell HO.out 0
  have o1 := blk_cell HO.out 1
  have o2 := blk_cell HO.out 2
  have o3 := blk_cell HO.out 3
  go_wp2_with fail
  refine (rslot_calls length offset x _ m1 m2 m3 m4 hx.out).mono ?_
  rintro e W8 ⟨rfl, hb⟩
  rw [HAT2.out]
  clear g0 g1 g2 g3 g4 g5 g6 g7 g8 g9 g10 g11 k0 k1 k2 k3 k4 k5 k6 k7 k8 k9 k10 k11 t0 t1 o0 o1 o2 o3
  replace HC := Lib.hid (blk_keep hb HC.out)
  replace HK := Lib.hid (blk_keep hb HK.out)
  replace HO := Lib.hid (blk_keep hb HO.out)
  replace HD := Lib.hid (blk_keep hb HD.out)
  replace HIN := Lib.hid (HIN.out.below hb)
  replace HB := Lib.hid (below_step HB.out hb)
  clear hb
  obtain ⟨g0, g1, g2, g3, g4, g5, g6, g7, g8, g9, g10, g11⟩ := cfg_cells HC.out
  obtain ⟨k0, k1, k2, k3, k4, k5, k6, k7, k8, k9, k10, k11⟩ := cfg_cells HD.out
  have t0 := blk_cell HK.out 0
  have t1 := blk_cell HK.out 1
  have o0 := blk_cell HO.out 0
  have o1 := blk_cell HO.out 1
  have o2 := blk_cell HO.out 2
  have o3 := blk_cell HO.out 3
  go_wp2_with fail
  refine (rverdict_calls _ _ _ _ _ _ _ _ _ _ C _ (HR.out.below HB.out) length offset x m1 m2 m3 m4 hx.out).mono ?_
  rintro e W9 ⟨rfl, hb⟩
  rw [HVV2.out]
  clear g0 g1 g2 g3 g4 g5 g6 g7 g8 g9 g10 g11 k0 k1 k2 k3 k4 k5 k6 k7 k8 k9 k10 k11 t0 t1 o0 o1 o2 o3
  replace HC := Lib.hid (blk_keep hb HC.out)
  replace HK := Lib.hid (blk_keep hb HK.out)
  replace HO := Lib.hid (blk_keep hb HO.out)
  replace HD := Lib.hid (blk_keep hb HD.out)
  replace HIN := Lib.hid (HIN.out.below hb)
  replace HB := Lib.hid (below_step HB.out hb)
  clear hb
  obtain ⟨g0, g1, g2, g3, g4, g5, g6, g7, g8, g9, g10, g11⟩ := cfg_cells HC.out
  obtain ⟨k0, k1, k2, k3, k4, k5, k6, k7, k8, k9, k10, k11⟩ := cfg_cells HD.out
  have t0 := blk_cell HK.out 0
  have t1 := blk_cell HK.out 1
  have o0 := blk_cell HO.out 0
  have o1 := blk_cell HO.out 1
  have o2 := blk_cell HO.out 2
  have o3 := blk_cell HO.out 3
  go_wp2_with fail
  refine (same_calls B1 B8 B9 B10 B11 d1 d8 d9 d10 d11 _ _ _ _ _ _ _ _ _ _ C _ HIN.out (HR.out.below HB.out)).mono ?_
  rintro e W10 ⟨rfl, hb⟩
  clear g0 g1 g2 g3 g4 g5 g6 g7 g8 g9 g10 g11 k0 k1 k2 k3 k4 k5 k6 k7 k8 k9 k10 k11 t0 t1 o0 o1 o2 o3
  have HBf := Lib.hid (below_step HB.out hb)
  clear hb
  go_wp2
  go_ret
  exact ⟨rfl, HBf.out⟩
theorem oOne_cells {w : World} {x : S34} {cs : List Value} (h : k34.K w x cs) : cs = [.int .i64 x.f0, .int .i64 x.f1.f0, .int .i64 x.f1.f1, .int .i64 x.f1.f2] := k34_open h
def OneI4 (x : S34) : Prop := I64 x.f0 ∧ ShotI x.f1
theorem oOne4 : Opens Try.prog 34 k34 OneI4 :=
  opens_struct (fun x : S34 => (x.f0, x.f1)) (fun x => ⟨x.1, x.2⟩) Try.underlying34 (by kernel_rfl)
    (opensF_cons oI rfl (by kernel_rfl) rfl (opensF_one oShot rfl (by kernel_rfl))) (fun _ => rfl)
theorem oOne4_cells {w : World} {x : S34} {cs : List Value} (h : k34.K w x cs) : cs = [.int .i64 x.f0, .int .i64 x.f1.f0, .int .i64 x.f1.f1, .int .i64 x.f1.f2] := k34_open h
theorem plans_row (w : World) (A1 A8 A9 A10 A11 : Option Addr) (c1 c8 c9 c10 c11 : Nat) (C : S28) (h : CfgIn w C A1 A8 A9 A10 A11 c1 c8 c9 c10 c11) (hC : CfgOk C) (hz : SzOk C) (x : Int × Int) (_hx : I64 x.1 ∧ I64 x.2) (y : S34) (_hy : OneI4 y) :
    Calls Try.prog 3 #[.agg #[.int .i64 C.f0, .slice A1 C.f1.length c1, .int .i64 C.f2, .int .i64 C.f3, .int .i64 C.f4, .int .i64 C.f5, .int .i64 C.f6, .int .i64 C.f7, .slice A8 C.f8.length c8, .slice A9 C.f9.length c9, .slice A10 C.f10.length c10, .slice A11 C.f11.length c11], .agg #[.int .i64 x.1, .int .i64 x.2], .agg #[.int .i64 y.f0, .int .i64 y.f1.f0, .int .i64 y.f1.f1, .int .i64 y.f1.f2]] w fun e w' => e = .returned (.bool true) ∧ Below w.heap.size w w' :=
  plans_calls _ _ _ _ _ _ _ _ _ _ C w h hC hz x.1 x.2 y.f0 y.f1
end Go.Proofs.Ytloibbfihkfeeaa
