/- What guard's Verdict answers. -/
import Derived.Test.YtloibbfihkfeeaaGC
namespace Go.Proofs.Ytloibbfihkfeeaa
set_option linter.unusedVariables false
set_option linter.unusedSimpArgs false
open Go.RowKit Go.Shelf Go.Proofs.YtloibbfihkfeeaaW.PrintWords

theorem blk_new_at (w : World) {k : Nat} (o : Obj) (h : k = w.heap.size) : (w.alloc o).heap[k]? = some o := by subst h; exact blk_new w o
set_option maxRecDepth 100000 in
set_option maxHeartbeats 4000000 in
theorem verdict_calls (A1 A8 A9 A10 A11 : Option Addr) (c1 c8 c9 c10 c11 : Nat) (C : S28) (w : World) (h : CfgIn w C A1 A8 A9 A10 A11 c1 c8 c9 c10 c11) (length offset : Int) (x : Sh) :
    Calls Try.prog 15 #[.agg #[.int .i64 C.f0, .slice A1 C.f1.length c1, .int .i64 C.f2, .int .i64 C.f3, .int .i64 C.f4, .int .i64 C.f5, .int .i64 C.f6, .int .i64 C.f7, .slice A8 C.f8.length c8, .slice A9 C.f9.length c9, .slice A10 C.f10.length c10, .slice A11 C.f11.length c11], .int .i64 length, .int .i64 offset, .agg #[.int .i64 x.f0, .int .i64 x.f1, .int .i64 x.f2]] w fun e w' => e = .returned (.tuple #[.int .i64 (if mayW C length offset [x] = 0 then verdictW C length offset x else 0), .int .i64 (mayW C length offset [x])]) ∧ Below w.heap.size w w' := by
  have HR := Lib.hid h
  have HBa := Lib.hid (show Below w.heap.size w (((w.alloc (Obj.cells #[.int .i64 C.f0, .slice A1 C.f1.length c1, .int .i64 C.f2, .int .i64 C.f3, .int .i64 C.f4, .int .i64 C.f5, .int .i64 C.f6, .int .i64 C.f7, .slice A8 C.f8.length c8, .slice A9 C.f9.length c9, .slice A10 C.f10.length c10, .slice A11 C.f11.length c11] 28)).alloc (Obj.cells #[.int .i64 x.f0, .int .i64 x.f1, .int .i64 x.f2] 32)).alloc (Obj.cells #[.int .i64 x.f0, .int .i64 x.f1, .int .i64 x.f2] 32)) from (((Below.refl _ _).alloc (Nat.le_refl _) _).alloc (by simp) _).alloc (by simp; omega) _)
  have HXb := Lib.hid (blk_alloc (show ((w.alloc (Obj.cells #[.int .i64 C.f0, .slice A1 C.f1.length c1, .int .i64 C.f2, .int .i64 C.f3, .int .i64 C.f4, .int .i64 C.f5, .int .i64 C.f6, .int .i64 C.f7, .slice A8 C.f8.length c8, .slice A9 C.f9.length c9, .slice A10 C.f10.length c10, .slice A11 C.f11.length c11] 28)).alloc (Obj.cells #[.int .i64 x.f0, .int .i64 x.f1, .int .i64 x.f2] 32)).heap[w.heap.size + 1]? = some (Obj.cells #[.int .i64 x.f0, .int .i64 x.f1, .int .i64 x.f2] 32) by have := blk_new (w.alloc (Obj.cells #[.int .i64 C.f0, .slice A1 C.f1.length c1, .int .i64 C.f2, .int .i64 C.f3, .int .i64 C.f4, .int .i64 C.f5, .int .i64 C.f6, .int .i64 C.f7, .slice A8 C.f8.length c8, .slice A9 C.f9.length c9, .slice A10 C.f10.length c10, .slice A11 C.f11.length c11] 28)) (Obj.cells #[.int .i64 x.f0, .int .i64 x.f1, .int .i64 x.f2] 32); rwa [World.size_alloc] at this) (Obj.cells #[.int .i64 x.f0, .int .i64 x.f1, .int .i64 x.f2] 32))
  have HC' := Lib.hid (blk_alloc (blk_alloc (blk_new w (Obj.cells #[.int .i64 C.f0, .slice A1 C.f1.length c1, .int .i64 C.f2, .int .i64 C.f3, .int .i64 C.f4, .int .i64 C.f5, .int .i64 C.f6, .int .i64 C.f7, .slice A8 C.f8.length c8, .slice A9 C.f9.length c9, .slice A10 C.f10.length c10, .slice A11 C.f11.length c11] 28)) (Obj.cells #[.int .i64 x.f0, .int .i64 x.f1, .int .i64 x.f2] 32)) (Obj.cells #[.int .i64 x.f0, .int .i64 x.f1, .int .i64 x.f2] 32))
  have hone := one_shot ((w.alloc (Obj.cells #[.int .i64 C.f0, .slice A1 C.f1.length c1, .int .i64 C.f2, .int .i64 C.f3, .int .i64 C.f4, .int .i64 C.f5, .int .i64 C.f6, .int .i64 C.f7, .slice A8 C.f8.length c8, .slice A9 C.f9.length c9, .slice A10 C.f10.length c10, .slice A11 C.f11.length c11] 28)).alloc (Obj.cells #[.int .i64 x.f0, .int .i64 x.f1, .int .i64 x.f2] 32)) x
  rw [World.size_alloc, World.size_alloc] at hone
  have HO := Lib.hid hone
  clear h hone
  obtain ⟨r, hr⟩ : ∃ r, r = (if mayW C length offset [x] = 0 then verdictW C length offset x else 0) := ⟨_, rfl⟩
  rw [← hr]
  obtain ⟨n, hn⟩ : ∃ n, n = mayW C length offset [x] := ⟨_, rfl⟩
  rw [← hn] at hr ⊢
  have HRR := Lib.hid hr
  clear hr
  have HNN := Lib.hid hn
  clear hn
  go_enter Try.func15, Try.ntmps15
  go_wp2_with fail
  refine (may_calls _ _ _ _ _ _ _ _ _ _ C _ (HR.out.below HBa.out) length offset _ 1 [x] HO.out).mono ?_
  rintro e W1 ⟨rfl, hb1⟩
  rw [← HNN.out]
  have HB1 := Lib.hid (HBa.out.trans (hb1.mono HBa.out.size))
  have HX1 := Lib.hid (blk_keep hb1 HXb.out)
  have HC1' := Lib.hid (blk_keep hb1 HC'.out)
  clear hb1
  by_cases h0 : n = 0
  case neg =>
    have e0 : (n != 0) = true := by simpa using h0
    have hres := Lib.hid (show r = 0 by rw [HRR.out, if_neg h0])
    clear h0
    go_wp2
    go_ret2
    exact ⟨ret_2 hres.out.symm, HB1.out⟩
  obtain ⟨-, m1, m2, m3, m4, -, m5⟩ := may_bounds (HNN.out.symm.trans h0)
  have HM5 := Lib.hid (show shotOk x = true by simpa using m5)
  subst h0
  have hres := Lib.hid (show r = verdictW C length offset x by rw [HRR.out, if_pos rfl])
  have x0 := blk_cell HX1.out 0
  have x1 := blk_cell HX1.out 1
  have x2 := blk_cell HX1.out 2
  clear m5
  obtain ⟨v, hv⟩ : ∃ v, v = verdictW C length offset x := ⟨_, rfl⟩
  have HVV := Lib.hid hv
  clear hv
  have HC1 := Lib.hid (HC1'.out)
  obtain ⟨g0, g1, g2, g3, g4, g5, g6, g7, g8, g9, g10, g11⟩ := cfg_cells HC1.out
  have hBd := HB1.out.drew
  have hlt0 := blk_lt HC1.out
  have hlt1 := blk_lt HX1.out
  go_wp2
  go_region_held3 (fun w' => w'.cell? ⟨w.heap.size, 0, none⟩ = some (.int .i64 C.f0) ∧ w'.cell? ⟨w.heap.size, 1, none⟩ = some (.slice A1 C.f1.length c1) ∧ w'.cell? ⟨w.heap.size, 2, none⟩ = some (.int .i64 C.f2) ∧ w'.cell? ⟨w.heap.size, 3, none⟩ = some (.int .i64 C.f3) ∧ w'.cell? ⟨w.heap.size, 4, none⟩ = some (.int .i64 C.f4) ∧ w'.cell? ⟨w.heap.size, 5, none⟩ = some (.int .i64 C.f5) ∧ w'.cell? ⟨w.heap.size, 6, none⟩ = some (.int .i64 C.f6) ∧ w'.cell? ⟨w.heap.size, 7, none⟩ = some (.int .i64 C.f7) ∧ w'.cell? ⟨w.heap.size, 8, none⟩ = some (.slice A8 C.f8.length c8) ∧ w'.cell? ⟨w.heap.size, 9, none⟩ = some (.slice A9 C.f9.length c9) ∧ w'.cell? ⟨w.heap.size, 10, none⟩ = some (.slice A10 C.f10.length c10) ∧ w'.cell? ⟨w.heap.size, 11, none⟩ = some (.slice A11 C.f11.length c11) ∧ w'.cell? ⟨w.heap.size + 1, 0, none⟩ = some (.int .i64 x.f0) ∧ w'.cell? ⟨w.heap.size + 1, 1, none⟩ = some (.int .i64 x.f1) ∧ w'.cell? ⟨w.heap.size + 1, 2, none⟩ = some (.int .i64 x.f2) ∧ Below w.heap.size w w') (first | exact ⟨g0, g1, g2, g3, g4, g5, g6, g7, g8, g9, g10, g11, x0, x1, x2, hBd⟩ | exact ⟨j0, j1, j2, j3, j4, j5, j6, j7, j8, j9, j10, j11, z0, z1, z2, jB⟩ | exact ⟨k0, k1, k2, k3, k4, k5, k6, k7, k8, k9, k10, k11, y0, y1, y2, kB⟩) (first | (go_at_call 32; refine (judge_calls _ _ _ _ _ _ _ _ _ _ C length offset _).mono ?_; rintro e w' ⟨rfl, hw⟩; have hb : Below W1.drew.heap.size W1.drew w' := by { rw [hw]; exact (((Below.refl _ _).alloc (Nat.le_refl _) _).alloc (by simp) _).alloc (by simp; omega) _ }; have kl : w'.cell? ⟨W1.heap.size + 1, 0, none⟩ = some (.int .i64 length) := by { rw [hw]; exact blk_cell (blk_alloc (blk_new_at _ _ (by simp)) _) 0 }; have ko : w'.cell? ⟨W1.heap.size + 1 + 1, 0, none⟩ = some (.int .i64 offset) := by { rw [hw]; exact blk_cell (blk_new_at _ _ (by simp)) 0 }; have kc : Hid (w'.heap[W1.heap.size]? = some (Obj.cells #[.int .i64 C.f0, .slice A1 C.f1.length c1, .int .i64 C.f2, .int .i64 C.f3, .int .i64 C.f4, .int .i64 C.f5, .int .i64 C.f6, .int .i64 C.f7, .slice A8 C.f8.length c8, .slice A9 C.f9.length c9, .slice A10 C.f10.length c10, .slice A11 C.f11.length c11] 28)) := Lib.hid (by { rw [hw]; exact blk_alloc (blk_alloc (blk_new_at _ _ (by simp)) _) _ }); obtain ⟨k0, k1, k2, k3, k4, k5, k6, k7, k8, k9, k10, k11⟩ := cells12_below hb ⟨g0, g1, g2, g3, g4, g5, g6, g7, g8, g9, g10, g11⟩; have y0 := (hb.cell (World.block_lt_of_cell? _ _ x0)).trans x0; have y1 := (hb.cell (World.block_lt_of_cell? _ _ x1)).trans x1; have y2 := (hb.cell (World.block_lt_of_cell? _ _ x2)).trans x2; have kB : Below w.heap.size w w' := below_step hBd hb; clear hb hw) | (go_at_call 37; refine (judge1_calls _ _ _ _ _ _ _ _ _ _ C length offset x _ _ _ _ (HR.out.below (by assumption)) m1 m2 m3 m4 HM5.out kl ko kc.out).mono ?_; rw [← HVV.out]; rintro e w' ⟨rfl, hb⟩; obtain ⟨j0, j1, j2, j3, j4, j5, j6, j7, j8, j9, j10, j11⟩ := cells12_below hb ⟨k0, k1, k2, k3, k4, k5, k6, k7, k8, k9, k10, k11⟩; have z0 := (hb.cell (World.block_lt_of_cell? _ _ y0)).trans y0; have z1 := (hb.cell (World.block_lt_of_cell? _ _ y1)).trans y1; have z2 := (hb.cell (World.block_lt_of_cell? _ _ y2)).trans y2; have jB : Below w.heap.size w w' := below_step kB hb; clear hb))
  rename_i hS
  have HBf := Lib.hid jB
  clear hS jB kB k0 k1 k2 k3 k4 k5 k6 k7 k8 k9 k10 k11 j0 j1 j2 j3 j4 j5 j6 j7 j8 j9 j10 j11 y0 y1 y2 z0 z1 z2 g0 g1 g2 g3 g4 g5 g6 g7 g8 g9 g10 g11 kl ko x0 x1 x2
  go_wp2
  go_ret2
  exact ⟨ret_2 (HVV.out.trans hres.out.symm), HBf.out⟩
end Go.Proofs.Ytloibbfihkfeeaa
