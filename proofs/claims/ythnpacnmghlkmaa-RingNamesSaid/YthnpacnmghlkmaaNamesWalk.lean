/- The law RingNames' walk: a straight one over the contracts. -/
import Derived.Test.YthnpacnmghlkmaaPx4
import Derived.Test.YthnpacnmghlkmaaPx5
import Derived.Test.YthnpacnmghlkmaaPx6
import Derived.Test.YthnpacnmghlkmaaCovered
namespace Go.Proofs.Ythnpacnmghlkmaa
open Go.RowKit Go.Shelf Go.Proofs.Ythnpacnmghlkmaa.Px Go.Proofs.YthnpacnmghlkmaaW.PrintWords Go.Proofs.YthnpacnmghlkmaaW.PrintLast
namespace Names

theorem one_row {W : World} {b : Nat} (x : S52) (h : W.heap[b]? = some (Obj.cells #[.int .i64 x.f0, .int .i64 x.f1] 52 (0, 0))) : Kd.C k52 W (some ⟨b, 0, none⟩) ([x] : List S52).length [x] := by
  refine ⟨rfl, by simp, fun _ => ⟨_, rfl, fun j p hj => ⟨[.int .i64 p.f0, .int .i64 p.f1], rfl, k52_mk _ p, fun i u hu => ?_⟩⟩⟩
  have hc := fun i => blk_cell h i
  match j, hj with
  | 0, hj => simp at hj; subst hj; match i, hu with
    | 0, hu => simp at hu; subst hu; exact hc 0
    | 1, hu => simp at hu; subst hu; exact hc 1
    | i + 2, hu => simp at hu
  | j + 1, hj => simp at hj
theorem three_ints {W : World} {b : Nat} (x y z : Int) (h : W.heap[b]? = some (Obj.cells #[.int .i64 x, .int .i64 y, .int .i64 z] 3 (0, 0))) : Kd.C (Kd.int .i64) W (some ⟨b, 0, none⟩) ([x, y, z] : List Int).length [x, y, z] := by
  refine ⟨rfl, by simp, fun _ => ⟨_, rfl, fun j p hj => ⟨[.int .i64 p], rfl, rfl, fun i u hu => ?_⟩⟩⟩
  have hc := fun i => blk_cell h i
  match i, hu with
  | 0, hu =>
    simp at hu; subst hu
    match j, hj with
    | 0, hj => simp at hj; subst hj; exact hc 0
    | 1, hj => simp at hj; subst hj; exact hc 1
    | 2, hj => simp at hj; subst hj; exact hc 2
    | j + 3, hj => simp at hj
  | i + 1, hu => simp at hu
theorem v_meet0 : ring_Meet.f 60 4 2 0 1 5 = some (true, 0) := by kernel_rfl
theorem v_meet1 : ring_Meet.f 60 1 0 1 1 5 = some (false, 0) := by kernel_rfl
theorem v_cov0 : ring_Covered.f 60 [⟨4, 2⟩] 5 = some (2, 0) := by kernel_rfl
theorem v_gaps0 : ring_Gaps.f 60 [⟨4, 2⟩] 5 = some ([⟨1, 3⟩], 0) := by kernel_rfl
theorem v_gaps1 : ring_Gaps.f 60 [] 5 = some ([⟨0, 5⟩], 0) := by kernel_rfl
theorem v_gaps2 : ring_Gaps.f 60 [⟨0, 5⟩] 5 = some ([], 0) := by kernel_rfl
theorem v_fit0 : ring_Fit.f 60 [⟨4, 2⟩] 3 5 = some (1, 0) := by kernel_rfl
theorem v_fit1 : ∃ x, ring_Fit.f 60 [⟨4, 2⟩] 4 5 = some (x, 2) := ⟨0, by kernel_rfl⟩
theorem v_lcm0 : ring_Lcm.f 60 4 6 = some (12, 0) := by kernel_rfl
theorem v_lcm1 : ∃ x, ring_Lcm.f 60 0 1 = some (x, 2) := ⟨0, by kernel_rfl⟩
theorem v_hyp0 : ring_Hyper.f 60 [2, 3, 4] = some (12, 0) := by kernel_rfl
theorem v_falls0 : ring_Falls.f 60 3 1 0 8 = some (3, 0) := by kernel_rfl
theorem v_falls1 : ring_Falls.f 60 3 (-1) 5 5 = some (0, 0) := by kernel_rfl
theorem v_hyp1 : ring_Hyper.f 60 [] = some (1, 0) := by kernel_rfl
theorem v_lcm2 : ∃ x, ring_Lcm.f 60 2147483647 2 = some (x, 2) := ⟨0, by kernel_rfl⟩
theorem v_gcd0 : ring_Gcd.f 60 12 (-18) = some 6 := by kernel_rfl
theorem v_gcd1 : ring_Gcd.f 60 0 0 = some 0 := by kernel_rfl
theorem v_gcd2 : ring_Gcd.f 60 (-2147483648) 0 = some 2147483648 := by kernel_rfl
theorem v_gcd3 : ring_Gcd.f 60 2147483648 2 = some 0 := by kernel_rfl
theorem v_place0 : ∃ x, ring_Place.f 60 0 0 = some (x, 130) := ⟨0, by kernel_rfl⟩
theorem v_place1 : ∃ x, ring_Place.f 60 0 1048577 = some (x, 130) := ⟨0, by kernel_rfl⟩
theorem v_cov1 : ∃ x, ring_Covered.f 60 [⟨5, 0⟩] 5 = some (x, 130) := ⟨0, by kernel_rfl⟩
theorem v_gaps3 : ∃ x, ring_Gaps.f 60 [⟨0, 6⟩] 5 = some (x, 130) := ⟨[], by kernel_rfl⟩
theorem v_fit2 : ∃ x, ring_Fit.f 60 [] 0 5 = some (x, 2) := ⟨0, by kernel_rfl⟩
theorem v_falls2 : ∃ x, ring_Falls.f 60 0 0 0 1 = some (x, 2) := ⟨0, by kernel_rfl⟩
theorem v_falls3 : ∃ x, ring_Falls.f 60 1 0 0 2147483648 = some (x, 2) := ⟨0, by kernel_rfl⟩
theorem v_place2 : ∃ x, ring_Place.f 60 (-9223372036854775808) 7 = some (x, 0) ∧ 0 ≤ x ∧ x < 7 := ⟨6, by kernel_rfl, by decide, by decide⟩
theorem v_alive : rotalaw13_alive.f 60 = some true := by kernel_rfl

set_option maxRecDepth 100000 in
set_option maxHeartbeats 16000000 in
theorem names_calls (w : World) : Calls Try.prog 10 #[] w fun e w' => e = .returned (.bool true) ∧ Below w.heap.size w w' := by
  obtain ⟨xf1, vf1⟩ := v_fit1
  obtain ⟨xl1, vl1⟩ := v_lcm1
  obtain ⟨xl2, vl2⟩ := v_lcm2
  obtain ⟨xp0, vp0⟩ := v_place0
  obtain ⟨xp1, vp1⟩ := v_place1
  obtain ⟨xc1, vc1⟩ := v_cov1
  obtain ⟨xg3, vg3⟩ := v_gaps3
  obtain ⟨xf2, vf2⟩ := v_fit2
  obtain ⟨xs2, vs2⟩ := v_falls2
  obtain ⟨xs3, vs3⟩ := v_falls3
  obtain ⟨xp2, vp2, yp2, zp2⟩ := v_place2
  go_enter Try.func10, Try.ntmps10
  go_wp2_with fail
  refine (ring_Meet.calls 60 4 2 0 1 5 true 0 _ v_meet0).mono ?_
  rintro e W ⟨rfl, hb⟩
  have HB := Lib.hid hb
  clear hb
  go_wp2_with fail
  refine (ring_Meet.calls 60 1 0 1 1 5 false 0 _ v_meet1).mono ?_
  rintro e W ⟨rfl, hb⟩
  replace HB := Lib.hid (below_step HB.out hb)
  clear hb
  have HW0 := Lib.hid HB.out
  clear HB
  go_wp2_with fail
  have HL := Lib.hid (one_row (⟨4, 2⟩ : S52) (blk_new W (Obj.cells #[.int .i64 4, .int .i64 2] 52 (0, 0))))
  have HB := Lib.hid (HW0.out.alloc HW0.out.size (Obj.cells #[.int .i64 4, .int .i64 2] 52 (0, 0)))
  clear HW0
  refine (ring_Covered.calls 60 _ 1 [⟨4, 2⟩] 5 2 0 _ HL.out (Nat.le_refl _) v_cov0).mono ?_
  rintro e W1 ⟨rfl, hb⟩
  generalize W.heap.size = bl at *
  replace HL := Lib.hid (Kd.C_below HL.out hb)
  replace HB := Lib.hid (below_step HB.out hb)
  clear hb
  go_wp2_with fail
  refine (ring_Gaps.calls 60 _ 1 [⟨4, 2⟩] 5 [⟨1, 3⟩] 0 _ HL.out (Nat.le_refl _) v_gaps0).mono ?_
  rintro e W ⟨v, rfl, hR, hb⟩
  obtain ⟨Ad, cd, rfl, hcd, hd⟩ := Kd.R_reads hR
  clear hR hcd
  replace HL := Lib.hid (Kd.C_below HL.out hb)
  replace HB := Lib.hid (below_step HB.out hb)
  clear hb
  have HD := Lib.hid hd
  clear hd
  go_wp2_with fail
  refine (ring_Gaps.calls 60 none 0 [] 5 [⟨0, 5⟩] 0 _ (Kd.C_nil _ _) (Nat.le_refl _) v_gaps1).mono ?_
  rintro e W ⟨v, rfl, hR, hb⟩
  obtain ⟨Af, cf, rfl, hcf, hf⟩ := Kd.R_reads hR
  clear hR hcf
  replace HL := Lib.hid (Kd.C_below HL.out hb)
  replace HD := Lib.hid (Kd.C_below HD.out hb)
  replace HB := Lib.hid (below_step HB.out hb)
  clear hb
  have HF := Lib.hid hf
  clear hf
  have HW1 := Lib.hid HB.out
  clear HB
  go_wp2_with fail
  have hl0 := one_row (⟨0, 5⟩ : S52) (blk_new W (Obj.cells #[.int .i64 0, .int .i64 5] 52 (0, 0)))
  have HB := Lib.hid (HW1.out.alloc HW1.out.size (Obj.cells #[.int .i64 0, .int .i64 5] 52 (0, 0)))
  replace HL := Lib.hid (Kd.C_alloc HL.out (Obj.cells #[.int .i64 0, .int .i64 5] 52 (0, 0)))
  replace HD := Lib.hid (Kd.C_alloc HD.out (Obj.cells #[.int .i64 0, .int .i64 5] 52 (0, 0)))
  replace HF := Lib.hid (Kd.C_alloc HF.out (Obj.cells #[.int .i64 0, .int .i64 5] 52 (0, 0)))
  clear HW1
  refine (ring_Gaps.calls 60 _ 1 [⟨0, 5⟩] 5 [] 0 _ hl0 (Nat.le_refl _) v_gaps2).mono ?_
  rintro e W ⟨v, rfl, hR, hb⟩
  obtain ⟨Ag, cg, rfl, -, -⟩ := Kd.R_reads hR
  clear hR hl0
  replace HL := Lib.hid (Kd.C_below HL.out hb)
  replace HD := Lib.hid (Kd.C_below HD.out hb)
  replace HF := Lib.hid (Kd.C_below HF.out hb)
  replace HB := Lib.hid (below_step HB.out hb)
  clear hb
  go_wp2_with fail
  refine (ring_Fit.calls 60 _ 1 [⟨4, 2⟩] 3 5 1 0 _ HL.out (Nat.le_refl _) v_fit0).mono ?_
  rintro e W ⟨rfl, hb⟩
  replace HL := Lib.hid (Kd.C_below HL.out hb)
  replace HD := Lib.hid (Kd.C_below HD.out hb)
  replace HF := Lib.hid (Kd.C_below HF.out hb)
  replace HB := Lib.hid (below_step HB.out hb)
  clear hb
  go_wp2_with fail
  refine (ring_Fit.calls 60 _ 1 [⟨4, 2⟩] 4 5 xf1 2 _ HL.out (Nat.le_refl _) vf1).mono ?_
  rintro e W ⟨rfl, hb⟩
  replace HL := Lib.hid (Kd.C_below HL.out hb)
  replace HD := Lib.hid (Kd.C_below HD.out hb)
  replace HF := Lib.hid (Kd.C_below HF.out hb)
  replace HB := Lib.hid (below_step HB.out hb)
  clear hb
  obtain ⟨ad, rfl, d0, d1⟩ := at_T52 HD.out 0 (by decide) (by decide)
  obtain ⟨af, rfl, f0, f1⟩ := at_T52 HF.out 0 (by decide) (by decide)
  have ed : ad.add 0 = ad := by cases ad; simp [Addr.add]
  have ef : af.add 0 = af := by cases af; simp [Addr.add]
  replace d0 : W.cell? ad = some (.int .i64 1) := by rw [← ed]; exact d0
  replace f0 : W.cell? af = some (.int .i64 0) := by rw [← ef]; exact f0
  replace d1 : W.cell? { block := ad.block, off := ad.off + 1 } = some (.int .i64 3) := d1
  replace f1 : W.cell? { block := af.block, off := af.off + 1 } = some (.int .i64 5) := f1
  clear ed ef
  go_wp2_with fail
  clear d0 d1 f0 f1 HD HF HL
  refine (ring_Lcm.calls 60 4 6 12 0 _ v_lcm0).mono ?_
  rintro e W ⟨rfl, hb⟩
  replace HB := Lib.hid (below_step HB.out hb)
  clear hb
  go_wp2_with fail
  refine (ring_Lcm.calls 60 0 1 xl1 2 _ vl1).mono ?_
  rintro e W ⟨rfl, hb⟩
  replace HB := Lib.hid (below_step HB.out hb)
  clear hb
  have HW2 := Lib.hid HB.out
  clear HB
  go_wp2_with fail
  have hi := three_ints 2 3 4 (blk_new W (Obj.cells #[.int .i64 2, .int .i64 3, .int .i64 4] 3 (0, 0)))
  have HB := Lib.hid (HW2.out.alloc HW2.out.size (Obj.cells #[.int .i64 2, .int .i64 3, .int .i64 4] 3 (0, 0)))
  clear HW2
  refine (ring_Hyper.calls 60 _ 3 [2, 3, 4] 12 0 _ hi (Nat.le_refl _) v_hyp0).mono ?_
  rintro e W ⟨rfl, hb⟩
  clear hi
  replace HB := Lib.hid (below_step HB.out hb)
  clear hb
  go_wp2_with fail
  refine (ring_Falls.calls 60 3 1 0 8 3 0 _ v_falls0).mono ?_
  rintro e W ⟨rfl, hb⟩
  replace HB := Lib.hid (below_step HB.out hb)
  clear hb
  go_wp2_with fail
  refine (ring_Falls.calls 60 3 (-1) 5 5 0 0 _ v_falls1).mono ?_
  rintro e W ⟨rfl, hb⟩
  replace HB := Lib.hid (below_step HB.out hb)
  clear hb
  go_wp2_with fail
  refine (ring_Hyper.calls 60 none 0 [] 1 0 _ (Kd.C_nil _ _) (Nat.le_refl _) v_hyp1).mono ?_
  rintro e W ⟨rfl, hb⟩
  replace HB := Lib.hid (below_step HB.out hb)
  clear hb
  go_wp2_with fail
  refine (ring_Lcm.calls 60 2147483647 2 xl2 2 _ vl2).mono ?_
  rintro e W ⟨rfl, hb⟩
  replace HB := Lib.hid (below_step HB.out hb)
  clear hb
  go_wp2_with fail
  refine (ring_Gcd.calls 60 12 (-18) 6 _ v_gcd0).mono ?_
  rintro e W ⟨rfl, hb⟩
  replace HB := Lib.hid (below_step HB.out hb)
  clear hb
  go_wp2_with fail
  refine (ring_Gcd.calls 60 0 0 0 _ v_gcd1).mono ?_
  rintro e W ⟨rfl, hb⟩
  replace HB := Lib.hid (below_step HB.out hb)
  clear hb
  go_wp2_with fail
  refine (ring_Gcd.calls 60 (-2147483648) 0 2147483648 _ v_gcd2).mono ?_
  rintro e W ⟨rfl, hb⟩
  replace HB := Lib.hid (below_step HB.out hb)
  clear hb
  go_wp2_with fail
  refine (ring_Gcd.calls 60 2147483648 2 0 _ v_gcd3).mono ?_
  rintro e W ⟨rfl, hb⟩
  replace HB := Lib.hid (below_step HB.out hb)
  clear hb
  go_wp2_with fail
  refine (ring_Place.calls 60 0 0 xp0 130 _ vp0).mono ?_
  rintro e W ⟨rfl, hb⟩
  replace HB := Lib.hid (below_step HB.out hb)
  clear hb
  go_wp2_with fail
  refine (ring_Place.calls 60 0 1048577 xp1 130 _ vp1).mono ?_
  rintro e W ⟨rfl, hb⟩
  replace HB := Lib.hid (below_step HB.out hb)
  clear hb
  have HW3 := Lib.hid HB.out
  clear HB
  go_wp2_with fail
  have hi := one_row (⟨5, 0⟩ : S52) (blk_new W (Obj.cells #[.int .i64 5, .int .i64 0] 52 (0, 0)))
  have HB := Lib.hid (HW3.out.alloc HW3.out.size (Obj.cells #[.int .i64 5, .int .i64 0] 52 (0, 0)))
  clear HW3
  refine (ring_Covered.calls 60 _ 1 [⟨5, 0⟩] 5 xc1 130 _ hi (Nat.le_refl _) vc1).mono ?_
  rintro e W ⟨rfl, hb⟩
  clear hi
  replace HB := Lib.hid (below_step HB.out hb)
  clear hb
  have HW4 := Lib.hid HB.out
  clear HB
  go_wp2_with fail
  have hi := one_row (⟨0, 6⟩ : S52) (blk_new W (Obj.cells #[.int .i64 0, .int .i64 6] 52 (0, 0)))
  have HB := Lib.hid (HW4.out.alloc HW4.out.size (Obj.cells #[.int .i64 0, .int .i64 6] 52 (0, 0)))
  clear HW4
  refine (ring_Gaps.calls 60 _ 1 [⟨0, 6⟩] 5 xg3 130 _ hi (Nat.le_refl _) vg3).mono ?_
  rintro e W ⟨v, rfl, hR, hb⟩
  obtain ⟨Aq, cq, rfl, -, -⟩ := Kd.R_reads hR
  clear hR
  clear hi
  replace HB := Lib.hid (below_step HB.out hb)
  clear hb
  go_wp2_with fail
  refine (ring_Fit.calls 60 none 0 [] 0 5 xf2 2 _ (Kd.C_nil _ _) (Nat.le_refl _) vf2).mono ?_
  rintro e W ⟨rfl, hb⟩
  replace HB := Lib.hid (below_step HB.out hb)
  clear hb
  go_wp2_with fail
  refine (ring_Falls.calls 60 0 0 0 1 xs2 2 _ vs2).mono ?_
  rintro e W ⟨rfl, hb⟩
  replace HB := Lib.hid (below_step HB.out hb)
  clear hb
  go_wp2_with fail
  refine (ring_Falls.calls 60 1 0 0 2147483648 xs3 2 _ vs3).mono ?_
  rintro e W ⟨rfl, hb⟩
  replace HB := Lib.hid (below_step HB.out hb)
  clear hb
  go_wp2_with fail
  refine (ring_Place.calls 60 (-9223372036854775808) 7 xp2 0 _ vp2).mono ?_
  rintro e W ⟨rfl, hb⟩
  replace HB := Lib.hid (below_step HB.out hb)
  clear hb
  go_wp2_with fail
  refine (rotalaw13_alive.calls 60 true _ v_alive).mono ?_
  rintro e W ⟨rfl, hb⟩
  replace HB := Lib.hid (below_step HB.out hb)
  clear hb
  go_wp2_with fail
  go_ret
  exact ⟨rfl, HB.out⟩
end Names
end Go.Proofs.Ythnpacnmghlkmaa

