/- The document's Plan; the walk of GuardPlans. -/
import Derived.Test.YtloibbfihkfeeaaRG
import Derived.Test.YtloibbfihkfeeaaTW
import Derived.Test.YtloibbfihkfeeaaGO
import Derived.Test.YtloibbfihkfeeaaGreat
namespace Go.Proofs.Ytloibbfihkfeeaa
set_option linter.unusedVariables false
set_option linter.unusedSimpArgs false
open Go.RowKit Go.Shelf Go.Proofs.YtloibbfihkfeeaaW.PrintWords Go.Proofs.YtloibbfihkfeeaaW.PrintLast

set_option maxRecDepth 100000 in
set_option maxHeartbeats 8000000 in
theorem rplan_calls (A1 A8 A9 A10 A11 : Option Addr) (c1 c8 c9 c10 c11 : Nat) (C : S28) (w : World) (h : CfgIn w C A1 A8 A9 A10 A11 c1 c8 c9 c10 c11) (hC : CfgOk C) (hz : SzOk C) (length slot offset : Int) :
    Calls Try.prog 13 #[.agg #[.int .i64 C.f0, .slice A1 C.f1.length c1, .int .i64 C.f2, .int .i64 C.f3, .int .i64 C.f4, .int .i64 C.f5, .int .i64 C.f6, .int .i64 C.f7, .slice A8 C.f8.length c8, .slice A9 C.f9.length c9, .slice A10 C.f10.length c10, .slice A11 C.f11.length c11], .int .i64 length, .int .i64 slot, .int .i64 offset] w fun e w' => e = .returned (.tuple #[.agg #[.int .i64 (planW C length slot offset).1.f0, .int .i64 (planW C length slot offset).1.f1, .int .i64 (planW C length slot offset).1.f2], .int .i64 (planW C length slot offset).2]) ∧ Below w.heap.size w w' := by
  have HR := Lib.hid h
  have HCO := Lib.hid hC
  have HSZ := Lib.hid hz
  have HB := Lib.hid (show Below w.heap.size w ((w.alloc (Obj.cells #[.int .i64 C.f0, .slice A1 C.f1.length c1, .int .i64 C.f2, .int .i64 C.f3, .int .i64 C.f4, .int .i64 C.f5, .int .i64 C.f6, .int .i64 C.f7, .slice A8 C.f8.length c8, .slice A9 C.f9.length c9, .slice A10 C.f10.length c10, .slice A11 C.f11.length c11] 28)).alloc (Obj.cells #[.int .i64 0, .int .i64 0, .int .i64 0] 32)) from ((Below.refl _ _).alloc (Nat.le_refl _) _).alloc (by simp) _)
  have HC := Lib.hid (blk_alloc (blk_new w (Obj.cells #[.int .i64 C.f0, .slice A1 C.f1.length c1, .int .i64 C.f2, .int .i64 C.f3, .int .i64 C.f4, .int .i64 C.f5, .int .i64 C.f6, .int .i64 C.f7, .slice A8 C.f8.length c8, .slice A9 C.f9.length c9, .slice A10 C.f10.length c10, .slice A11 C.f11.length c11] 28)) (Obj.cells #[.int .i64 0, .int .i64 0, .int .i64 0] 32))
  have HZ := Lib.hid (show ((w.alloc (Obj.cells #[.int .i64 C.f0, .slice A1 C.f1.length c1, .int .i64 C.f2, .int .i64 C.f3, .int .i64 C.f4, .int .i64 C.f5, .int .i64 C.f6, .int .i64 C.f7, .slice A8 C.f8.length c8, .slice A9 C.f9.length c9, .slice A10 C.f10.length c10, .slice A11 C.f11.length c11] 28)).alloc (Obj.cells #[.int .i64 0, .int .i64 0, .int .i64 0] 32)).heap[w.heap.size + 1]? = some (Obj.cells #[.int .i64 0, .int .i64 0, .int .i64 0] 32) from blk_new_at _ _ (by simp))
  clear h hC hz
  obtain ⟨r, hr⟩ : ∃ r, r = planW C length slot offset := ⟨_, rfl⟩
  rw [← hr]
  obtain ⟨n, hn⟩ : ∃ n, n = mayW C length offset [] := ⟨_, rfl⟩
  have HNN := Lib.hid hn
  rw [planW, ← hn] at hr
  have HRR := Lib.hid hr
  clear hr hn
  go_enter Try.func13, Try.ntmps13
  go_wp2_with fail
  refine (rmay_calls _ _ _ _ _ _ _ _ _ _ C _ (HR.out.below HB.out) HCO.out HSZ.out length offset none 0 [] (empty_shots _)).mono ?_
  rintro e W1 ⟨rfl, hb⟩
  rw [← HNN.out]
  replace HC := Lib.hid (blk_keep hb HC.out)
  replace HZ := Lib.hid (blk_keep hb HZ.out)
  replace HB := Lib.hid (below_step HB.out hb)
  clear hb
  have z0 := blk_cell HZ.out 0
  have z1 := blk_cell HZ.out 1
  have z2 := blk_cell HZ.out 2
  have zf0 := blk_frozen HZ.out 0
  have zf1 := blk_frozen HZ.out 1
  have zf2 := blk_frozen HZ.out 2
  by_cases h0 : n = 0
  case neg =>
    have e0 : (n != 0) = true := by simpa using h0
    have hres := Lib.hid (show r = (⟨0, 0, 0⟩, n) by rw [HRR.out, if_pos h0])
    clear h0
    go_wp2
    refine bodyPost_ret (v := .tuple #[.agg #[.int .i64 0, .int .i64 0, .int .i64 0], .int .i64 n]) (by simp [results, Try.f13, go_sem, z0, z1, z2, zf0, zf1, zf2]) rfl ?_
    exact ⟨plan_ret hres.out, ((HB.out.setCell (p := ⟨w.heap.size + 1, 0, none⟩) (by simp) _).setCell (p := ⟨w.heap.size + 1, 1, none⟩) (by simp) _).setCell (p := ⟨w.heap.size + 1, 2, none⟩) (by simp) _⟩
  obtain ⟨hck, m1, m2, m3, m4, m5, -⟩ := may_bounds (HNN.out.symm.trans h0)
  obtain ⟨mm0, mm1⟩ := check_margin hck
  have e0 : (n != 0) = false := by simpa using h0
  by_cases q1 : slot < 0
  · have hres := Lib.hid (show r = (⟨0, 0, 0⟩, 2) by rw [HRR.out, if_neg (by simp [h0]), if_pos (.inl q1)])
    clear h0
    go_wp2
    refine bodyPost_ret (v := .tuple #[.agg #[.int .i64 0, .int .i64 0, .int .i64 0], .int .i64 2]) (by simp [results, Try.f13, go_sem, z0, z1, z2, zf0, zf1, zf2]) rfl ?_
    exact ⟨plan_ret hres.out, ((HB.out.setCell (p := ⟨w.heap.size + 1, 0, none⟩) (by simp) _).setCell (p := ⟨w.heap.size + 1, 1, none⟩) (by simp) _).setCell (p := ⟨w.heap.size + 1, 2, none⟩) (by simp) _⟩
  by_cases q2 : 2147483647 < slot
  · have hres := Lib.hid (show r = (⟨0, 0, 0⟩, 2) by rw [HRR.out, if_neg (by simp [h0]), if_pos (.inr q2)])
    clear h0
    go_wp2
    refine bodyPost_ret (v := .tuple #[.agg #[.int .i64 0, .int .i64 0, .int .i64 0], .int .i64 2]) (by simp [results, Try.f13, go_sem, z0, z1, z2, zf0, zf1, zf2]) rfl ?_
    exact ⟨plan_ret hres.out, ((HB.out.setCell (p := ⟨w.heap.size + 1, 0, none⟩) (by simp) _).setCell (p := ⟨w.heap.size + 1, 1, none⟩) (by simp) _).setCell (p := ⟨w.heap.size + 1, 2, none⟩) (by simp) _⟩
  have hres0 := Lib.hid (show r = (⟨ownerW C slot, slot * length - offset + C.f4, slot * length - offset + length - C.f4⟩, 0) by rw [HRR.out, if_neg (by simp [h0]), if_neg (by omega)])
  clear h0
  have hp0 : 0 ≤ slot * length := Int.mul_nonneg (by omega) (by omega)
  have hp1 : slot * length ≤ 2147483647 * 16777216 := Int.mul_le_mul (by omega) (by omega) (by omega) (by omega)
  have hp2 : slot * length ≤ 36028797018963968 := by omega
  clear hp1
  obtain ⟨q, hq⟩ : ∃ q, q = slot * length := ⟨_, rfl⟩
  rw [← hq] at hp0 hp2 hres0
  obtain ⟨g0, g1, g2, g3, g4, g5, g6, g7, g8, g9, g10, g11⟩ := cfg_cells HC.out
  obtain ⟨o, ho⟩ : ∃ o, o = ownerW C slot := ⟨_, rfl⟩
  rw [← ho] at hres0
  have HO := Lib.hid ho
  clear ho
  have w0 : IntKind.i64.wrap (slot * length) = slot * length := IntWalk.i64_in _ (by rw [← hq]; omega)
  have w1 : IntKind.i64.wrap (q + C.f4) = q + C.f4 := IntWalk.i64_in _ (by omega)
  have w2 : IntKind.i64.wrap (q + C.f4 - offset) = q + C.f4 - offset := IntWalk.i64_in _ (by omega)
  have w3 : IntKind.i64.wrap (q + length) = q + length := IntWalk.i64_in _ (by omega)
  have w4 : IntKind.i64.wrap (q + length - C.f4) = q + length - C.f4 := IntWalk.i64_in _ (by omega)
  have w5 : IntKind.i64.wrap (q + length - C.f4 - offset) = q + length - C.f4 - offset := IntWalk.i64_in _ (by omega)
  have hres := Lib.hid (show r = (⟨o, q + C.f4 - offset, q + length - C.f4 - offset⟩, 0) by rw [hres0.out]; congr 2 <;> omega)
  rw [← hq] at w0
  go_wp2_with fail
  refine (rowner_calls _ _ _ _ _ _ _ _ _ _ C slot _ (HR.out.below HB.out)).mono ?_
  rintro e W2 ⟨rfl, hb⟩
  rw [← HO.out]
  clear g0 g1 g2 g3 g4 g5 g6 g7 g8 g9 g10 g11 z0 z1 z2 zf0 zf1 zf2
  replace HC := Lib.hid (blk_keep hb HC.out)
  replace HZ := Lib.hid (blk_keep hb HZ.out)
  replace HB := Lib.hid (below_step HB.out hb)
  clear hb
  have z0 := blk_cell HZ.out 0
  have z1 := blk_cell HZ.out 1
  have z2 := blk_cell HZ.out 2
  have zf0 := blk_frozen HZ.out 0
  have zf1 := blk_frozen HZ.out 1
  have zf2 := blk_frozen HZ.out 2
  have g4 := (cfg_cells HC.out).2.2.2.2.1
  rw [hq] at *
  go_wp2
  refine bodyPost_ret (v := .tuple #[.agg #[.int .i64 o, .int .i64 (slot * length + C.f4 - offset), .int .i64 (slot * length + length - C.f4 - offset)], .int .i64 0]) (by simp [results, Try.f13, go_sem, z0, z1, z2, zf0, zf1, zf2]) rfl ?_
  exact ⟨plan_ret hres.out, ((HB.out.setCell (p := ⟨w.heap.size + 1, 0, none⟩) (by simp) _).setCell (p := ⟨w.heap.size + 1, 1, none⟩) (by simp) _).setCell (p := ⟨w.heap.size + 1, 2, none⟩) (by simp) _⟩
end Go.Proofs.Ytloibbfihkfeeaa
