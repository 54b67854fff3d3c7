/- What guard's judge, Slot and Verdict answer. -/
import Derived.Test.YtloibbfihkfeeaaGB
namespace Go.Proofs.Ytloibbfihkfeeaa
set_option linter.unusedVariables false
set_option linter.unusedSimpArgs false
open Go.RowKit Go.Shelf Go.Proofs.YtloibbfihkfeeaaW.PrintWords

def verdictW (C : S28) (length offset : Int) (x : Sh) : Int := if x.f2 ≤ x.f1 then 1 else if liesW length offset x < 0 then 2 else if ownerW C (liesW length offset x) = x.f0 then 0 else 3
set_option maxRecDepth 100000 in
set_option maxHeartbeats 4000000 in
theorem judge1_calls (A1 A8 A9 A10 A11 : Option Addr) (c1 c8 c9 c10 c11 : Nat) (C : S28) (length offset : Int) (x : Sh) (w : World) (Bl Bo Bc : Nat) (h : CfgIn w C A1 A8 A9 A10 A11 c1 c8 c9 c10 c11) (hl1 : 1 ≤ length) (hl2 : length ≤ 16777216) (ho1 : -1073741824 ≤ offset) (ho2 : offset ≤ 1073741824) (hx : shotOk x = true)
    (hbl : w.cell? ⟨Bl, 0, none⟩ = some (.int .i64 length)) (hbo : w.cell? ⟨Bo, 0, none⟩ = some (.int .i64 offset)) (hbc : w.heap[Bc]? = some (Obj.cells #[.int .i64 C.f0, .slice A1 C.f1.length c1, .int .i64 C.f2, .int .i64 C.f3, .int .i64 C.f4, .int .i64 C.f5, .int .i64 C.f6, .int .i64 C.f7, .slice A8 C.f8.length c8, .slice A9 C.f9.length c9, .slice A10 C.f10.length c10, .slice A11 C.f11.length c11] 28)) :
    Calls Try.prog 37 #[.agg #[.int .i64 x.f0, .int .i64 x.f1, .int .i64 x.f2], .pointer (some ⟨Bl, 0, none⟩), .pointer (some ⟨Bo, 0, none⟩), .pointer (some ⟨Bc, 0, none⟩)] w fun e w' => e = .returned (.int .i64 (verdictW C length offset x)) ∧ Below w.heap.size w w' := by
  have hb : Below w.heap.size w (w.alloc (Obj.cells #[.int .i64 x.f0, .int .i64 x.f1, .int .i64 x.f2] 32)) := (Below.refl _ _).alloc (Nat.le_refl _) _
  have HB := Lib.hid hb
  have HR := Lib.hid h
  have HC := Lib.hid hbc
  have HX := Lib.hid (blk_new w (Obj.cells #[.int .i64 x.f0, .int .i64 x.f1, .int .i64 x.f2] 32))
  have hb1 := World.block_lt_of_cell? w _ hbl
  have hb2 := World.block_lt_of_cell? w _ hbo
  have hb3 := blk_lt hbc
  obtain ⟨b, hb'⟩ : ∃ b, b = verdictW C length offset x := ⟨_, rfl⟩
  rw [← hb']
  have HBB := Lib.hid hb'
  obtain ⟨s, hs⟩ : ∃ s, s = liesW length offset x := ⟨_, rfl⟩
  have HSS := Lib.hid hs
  clear hb h hbc hb' hs
  go_enter Try.func37, Try.ntmps37
  go_wp2_with fail
  refine (lies_calls length offset x _ hl1 hl2 ho1 ho2 hx).mono ?_
  rintro e W1 ⟨rfl, hb1'⟩
  rw [← HSS.out]
  have HB1 := Lib.hid (HB.out.trans (hb1'.mono HB.out.size))
  have HX1 := Lib.hid (blk_keep hb1' HX.out)
  have HC1 := Lib.hid (blk_keep hb1' (blk_alloc HC.out (Obj.cells #[.int .i64 x.f0, .int .i64 x.f1, .int .i64 x.f2] 32)))
  have x0 := blk_cell HX1.out 0
  have x1 := blk_cell HX1.out 1
  have x2 := blk_cell HX1.out 2
  clear hb1' hbl hbo
  by_cases q1 : x.f2 ≤ x.f1
  · have hres := Lib.hid (show b = 1 by rw [HBB.out, verdictW, if_pos q1])
    go_wp2
    go_ret
    exact ⟨ret_int hres.out.symm, HB1.out⟩
  by_cases q2 : s < 0
  · have hres := Lib.hid (show b = 2 by rw [HBB.out, verdictW, if_neg q1, ← HSS.out, if_pos q2])
    go_wp2
    go_ret
    exact ⟨ret_int hres.out.symm, HB1.out⟩
  have hbv := Lib.hid (show b = if ownerW C s = x.f0 then 0 else 3 by rw [HBB.out, verdictW, if_neg q1, ← HSS.out, if_neg q2])
  obtain ⟨o, ho⟩ : ∃ o, o = ownerW C s := ⟨_, rfl⟩
  have HO := Lib.hid ho
  clear ho
  have HRW := HR.out.below HB1.out
  obtain ⟨g0, g1, g2, g3, g4, g5, g6, g7, g8, g9, g10, g11⟩ := cfg_cells HC1.out
  have hBd := HB1.out.drew
  go_wp2
  clear x1 x2
  go_region_held3 (fun w' => w'.cell? ⟨Bc, 0, none⟩ = some (.int .i64 C.f0) ∧ w'.cell? ⟨Bc, 1, none⟩ = some (.slice A1 C.f1.length c1) ∧ w'.cell? ⟨Bc, 2, none⟩ = some (.int .i64 C.f2) ∧ w'.cell? ⟨Bc, 3, none⟩ = some (.int .i64 C.f3) ∧ w'.cell? ⟨Bc, 4, none⟩ = some (.int .i64 C.f4) ∧ w'.cell? ⟨Bc, 5, none⟩ = some (.int .i64 C.f5) ∧ w'.cell? ⟨Bc, 6, none⟩ = some (.int .i64 C.f6) ∧ w'.cell? ⟨Bc, 7, none⟩ = some (.int .i64 C.f7) ∧ w'.cell? ⟨Bc, 8, none⟩ = some (.slice A8 C.f8.length c8) ∧ w'.cell? ⟨Bc, 9, none⟩ = some (.slice A9 C.f9.length c9) ∧ w'.cell? ⟨Bc, 10, none⟩ = some (.slice A10 C.f10.length c10) ∧ w'.cell? ⟨Bc, 11, none⟩ = some (.slice A11 C.f11.length c11) ∧ w'.cell? ⟨w.heap.size, 0, none⟩ = some (.int .i64 x.f0) ∧ Below w.heap.size w w') (first | exact ⟨g0, g1, g2, g3, g4, g5, g6, g7, g8, g9, g10, g11, x0, hBd⟩ | exact ⟨k0, k1, k2, k3, k4, k5, k6, k7, k8, k9, k10, k11, y0, kB⟩) (first | (go_at_call 28; refine (owner_calls _ _ _ _ _ _ _ _ _ _ C s _ (HR.out.below hBd)).mono ?_; rw [← HO.out]; rintro e w' ⟨rfl, hb⟩; obtain ⟨k0, k1, k2, k3, k4, k5, k6, k7, k8, k9, k10, k11⟩ := cells12_below hb ⟨g0, g1, g2, g3, g4, g5, g6, g7, g8, g9, g10, g11⟩; have y0 := (hb.cell (World.block_lt_of_cell? _ _ x0)).trans x0; have kB : Below w.heap.size w w' := below_step hBd hb; clear hb))
  rename_i hS
  have HBf := Lib.hid kB
  clear hS k0 k1 k2 k3 k4 k5 k6 k7 k8 k9 k10 k11 kB g0 g1 g2 g3 g4 g5 g6 g7 g8 g9 g10 g11 x0 hBd HRW
  by_cases q3 : o = x.f0
  · have e3 : (o != x.f0) = false := by simpa using q3
    have hres := Lib.hid (show b = 0 by rw [hbv.out, ← HO.out, if_pos q3])
    clear q3
    go_wp2
    go_ret
    exact ⟨ret_int hres.out.symm, HBf.out⟩
  · have e3 : (o != x.f0) = true := by simpa using q3
    have hres := Lib.hid (show b = 3 by rw [hbv.out, ← HO.out, if_neg q3])
    clear q3
    go_wp2
    go_ret
    exact ⟨ret_int hres.out.symm, HBf.out⟩
theorem judge_calls (A1 A8 A9 A10 A11 : Option Addr) (c1 c8 c9 c10 c11 : Nat) (C : S28) (length offset : Int) (w : World) :
    Calls Try.prog 32 #[.agg #[.int .i64 C.f0, .slice A1 C.f1.length c1, .int .i64 C.f2, .int .i64 C.f3, .int .i64 C.f4, .int .i64 C.f5, .int .i64 C.f6, .int .i64 C.f7, .slice A8 C.f8.length c8, .slice A9 C.f9.length c9, .slice A10 C.f10.length c10, .slice A11 C.f11.length c11], .int .i64 length, .int .i64 offset] w fun e w' => e = .returned (.func (.func 37) #[] #[.pointer (some ⟨w.heap.size + 1, 0, none⟩), .pointer (some ⟨w.heap.size + 1 + 1, 0, none⟩), .pointer (some ⟨w.heap.size, 0, none⟩)]) ∧
      w' = ((w.alloc (Obj.cells #[.int .i64 C.f0, .slice A1 C.f1.length c1, .int .i64 C.f2, .int .i64 C.f3, .int .i64 C.f4, .int .i64 C.f5, .int .i64 C.f6, .int .i64 C.f7, .slice A8 C.f8.length c8, .slice A9 C.f9.length c9, .slice A10 C.f10.length c10, .slice A11 C.f11.length c11] 28)).alloc (Obj.cells #[.int .i64 length] 3)).alloc (Obj.cells #[.int .i64 offset] 3) := by
  go_enter Try.func32, Try.ntmps32
  go_wp2
  go_ret
  exact ⟨rfl, rfl⟩
/-- A row of one shot. -/
theorem one_shot (w : World) (x : Sh) : Kd.C k32 (w.alloc (Obj.cells #[.int .i64 x.f0, .int .i64 x.f1, .int .i64 x.f2] 32)) (some ⟨w.heap.size, 0, none⟩) ([x] : List Sh).length [x] := by
  refine ⟨rfl, by simp, fun _ => ⟨_, rfl, fun j p hj => ?_⟩⟩
  match j, hj with
  | 0, hj =>
    simp at hj
    subst hj
    refine ⟨[.int .i64 x.f0, .int .i64 x.f1, .int .i64 x.f2], rfl, k32_mk _ x, fun i u hu => ?_⟩
    have hb := blk_new w (Obj.cells #[.int .i64 x.f0, .int .i64 x.f1, .int .i64 x.f2] 32)
    match i, hu with
    | 0, hu => simp at hu; subst hu; exact blk_cell hb 0
    | 1, hu => simp at hu; subst hu; exact blk_cell hb 1
    | 2, hu => simp at hu; subst hu; exact blk_cell hb 2
    | i + 3, hu => simp at hu
  | j + 1, hj => simp at hj
theorem ret_2 {a b n : Int} (h : a = b) : Ending.returned (.tuple #[.int .i64 a, .int .i64 n]) = .returned (.tuple #[.int .i64 b, .int .i64 n]) := by rw [h]
theorem may_bounds {C : S28} {length offset : Int} {l : List Sh} (h : mayW C length offset l = 0) : checkN C = 0 ∧ 1 ≤ length ∧ length ≤ 16777216 ∧ -1073741824 ≤ offset ∧ offset ≤ 1073741824 ∧ 2 * C.f4 + 1 ≤ length ∧ l.all shotOk = true := by
  unfold mayW at h
  by_cases h0 : checkN C = 0
  case neg => rw [if_pos h0] at h; exact absurd h h0
  rw [if_neg (by simpa using h0)] at h
  have hm := check_margin h0
  split at h
  · omega
  split at h
  · omega
  split at h
  · rename_i hl; exact ⟨h0, by omega, by omega, by omega, by omega, by omega, hl⟩
  · omega
set_option maxRecDepth 100000 in
set_option maxHeartbeats 4000000 in
theorem slot_calls (A1 A8 A9 A10 A11 : Option Addr) (c1 c8 c9 c10 c11 : Nat) (C : S28) (w : World) (h : CfgIn w C A1 A8 A9 A10 A11 c1 c8 c9 c10 c11) (length offset : Int) (x : Sh) :
    Calls Try.prog 14 #[.agg #[.int .i64 C.f0, .slice A1 C.f1.length c1, .int .i64 C.f2, .int .i64 C.f3, .int .i64 C.f4, .int .i64 C.f5, .int .i64 C.f6, .int .i64 C.f7, .slice A8 C.f8.length c8, .slice A9 C.f9.length c9, .slice A10 C.f10.length c10, .slice A11 C.f11.length c11], .int .i64 length, .int .i64 offset, .agg #[.int .i64 x.f0, .int .i64 x.f1, .int .i64 x.f2]] w fun e w' => e = .returned (.tuple #[.int .i64 (if mayW C length offset [x] = 0 then liesW length offset x else 0), .int .i64 (mayW C length offset [x])]) ∧ Below w.heap.size w w' := by
  have HR := Lib.hid h
  have HBa := Lib.hid (show Below w.heap.size w (((w.alloc (Obj.cells #[.int .i64 C.f0, .slice A1 C.f1.length c1, .int .i64 C.f2, .int .i64 C.f3, .int .i64 C.f4, .int .i64 C.f5, .int .i64 C.f6, .int .i64 C.f7, .slice A8 C.f8.length c8, .slice A9 C.f9.length c9, .slice A10 C.f10.length c10, .slice A11 C.f11.length c11] 28)).alloc (Obj.cells #[.int .i64 x.f0, .int .i64 x.f1, .int .i64 x.f2] 32)).alloc (Obj.cells #[.int .i64 x.f0, .int .i64 x.f1, .int .i64 x.f2] 32)) from (((Below.refl _ _).alloc (Nat.le_refl _) _).alloc (by simp) _).alloc (by simp; omega) _)
  have HXb := Lib.hid (blk_alloc (show ((w.alloc (Obj.cells #[.int .i64 C.f0, .slice A1 C.f1.length c1, .int .i64 C.f2, .int .i64 C.f3, .int .i64 C.f4, .int .i64 C.f5, .int .i64 C.f6, .int .i64 C.f7, .slice A8 C.f8.length c8, .slice A9 C.f9.length c9, .slice A10 C.f10.length c10, .slice A11 C.f11.length c11] 28)).alloc (Obj.cells #[.int .i64 x.f0, .int .i64 x.f1, .int .i64 x.f2] 32)).heap[w.heap.size + 1]? = some (Obj.cells #[.int .i64 x.f0, .int .i64 x.f1, .int .i64 x.f2] 32) by have := blk_new (w.alloc (Obj.cells #[.int .i64 C.f0, .slice A1 C.f1.length c1, .int .i64 C.f2, .int .i64 C.f3, .int .i64 C.f4, .int .i64 C.f5, .int .i64 C.f6, .int .i64 C.f7, .slice A8 C.f8.length c8, .slice A9 C.f9.length c9, .slice A10 C.f10.length c10, .slice A11 C.f11.length c11] 28)) (Obj.cells #[.int .i64 x.f0, .int .i64 x.f1, .int .i64 x.f2] 32); rwa [World.size_alloc] at this) (Obj.cells #[.int .i64 x.f0, .int .i64 x.f1, .int .i64 x.f2] 32))
  have hone := one_shot ((w.alloc (Obj.cells #[.int .i64 C.f0, .slice A1 C.f1.length c1, .int .i64 C.f2, .int .i64 C.f3, .int .i64 C.f4, .int .i64 C.f5, .int .i64 C.f6, .int .i64 C.f7, .slice A8 C.f8.length c8, .slice A9 C.f9.length c9, .slice A10 C.f10.length c10, .slice A11 C.f11.length c11] 28)).alloc (Obj.cells #[.int .i64 x.f0, .int .i64 x.f1, .int .i64 x.f2] 32)) x
  rw [World.size_alloc, World.size_alloc] at hone
  have HO := Lib.hid hone
  clear h hone
  obtain ⟨r, hr⟩ : ∃ r, r = (if mayW C length offset [x] = 0 then liesW length offset x else 0) := ⟨_, rfl⟩
  rw [← hr]
  obtain ⟨n, hn⟩ : ∃ n, n = mayW C length offset [x] := ⟨_, rfl⟩
  rw [← hn] at hr ⊢
  have HRR := Lib.hid hr
  clear hr
  have HNN := Lib.hid hn
  clear hn
  go_enter Try.func14, Try.ntmps14
  go_wp2_with fail
  refine (may_calls _ _ _ _ _ _ _ _ _ _ C _ (HR.out.below HBa.out) length offset _ 1 [x] HO.out).mono ?_
  rintro e W1 ⟨rfl, hb1⟩
  rw [← HNN.out]
  have HB1 := Lib.hid (HBa.out.trans (hb1.mono HBa.out.size))
  have HX1 := Lib.hid (blk_keep hb1 HXb.out)
  clear hb1
  by_cases h0 : n = 0
  case neg =>
    have e0 : (n != 0) = true := by simpa using h0
    have hres := Lib.hid (show r = 0 by rw [HRR.out, if_neg h0])
    clear h0
    go_wp2
    go_ret2
    exact ⟨ret_2 hres.out.symm, HB1.out⟩
  obtain ⟨-, m1, m2, m3, m4, -, m5⟩ := may_bounds (HNN.out.symm.trans h0)
  have HM5 := Lib.hid (show shotOk x = true by simpa using m5)
  subst h0
  have hres := Lib.hid (show r = liesW length offset x by rw [HRR.out, if_pos rfl])
  have x0 := blk_cell HX1.out 0
  have x1 := blk_cell HX1.out 1
  have x2 := blk_cell HX1.out 2
  clear m5
  go_wp2_with fail
  refine (lies_calls length offset x _ m1 m2 m3 m4 HM5.out).mono ?_
  rintro e W2 ⟨rfl, hb2⟩
  have HB2 := Lib.hid (HB1.out.trans (hb2.mono HB1.out.size))
  clear hb2
  go_wp2
  go_ret2
  exact ⟨ret_2 hres.out.symm, HB2.out⟩
end Go.Proofs.Ytloibbfihkfeeaa
