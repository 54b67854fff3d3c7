/- The walk of ConfigChecks. -/
import Derived.Test.YtehbabkgaecoaaaRK
import Derived.Test.YtehbabkgaecoaaaTW
import Derived.Test.YtehbabkgaecoaaaSM
import Derived.Test.YtehbabkgaecoaaaTurn
import Derived.Test.YtehbabkgaecoaaaRTn
import Derived.Test.YtehbabkgaecoaaaGreat
namespace Go.Proofs.Ytehbabkgaecoaaa
set_option linter.unusedVariables false
set_option linter.unusedSimpArgs false
open Go.RowKit Go.Shelf Go.Proofs.YtehbabkgaecoaaaW.PrintWords Go.Proofs.YtehbabkgaecoaaaW.PrintLast

set_option maxRecDepth 100000 in
set_option maxHeartbeats 16000000 in
theorem checks_calls (w : World) (A1 A8 A9 A10 A11 : Option Addr) (c1 c8 c9 c10 c11 : Nat) (C : S29) (h : CfgIn w C A1 A8 A9 A10 A11 c1 c8 c9 c10 c11) (hC : CfgOk C) (hz : SzOk C) (slot : Int) (_hs : I64 slot) (node : Int) (_hn : I64 node) :
    Calls Try.prog 5 #[.agg #[.int .i64 C.f0, .slice A1 C.f1.length c1, .int .i64 C.f2, .int .i64 C.f3, .int .i64 C.f4, .int .i64 C.f5, .int .i64 C.f6, .int .i64 C.f7, .slice A8 C.f8.length c8, .slice A9 C.f9.length c9, .slice A10 C.f10.length c10, .slice A11 C.f11.length c11], .int .i64 slot, .int .i64 node] w fun e w' => e = .returned (.bool true) ∧ Below w.heap.size w w' := by
  have HR := Lib.hid h
  have HCO := Lib.hid hC
  have HSZ := Lib.hid hz
  have HB := Lib.hid (show Below w.heap.size w (w.alloc (Obj.cells #[.int .i64 C.f0, .slice A1 C.f1.length c1, .int .i64 C.f2, .int .i64 C.f3, .int .i64 C.f4, .int .i64 C.f5, .int .i64 C.f6, .int .i64 C.f7, .slice A8 C.f8.length c8, .slice A9 C.f9.length c9, .slice A10 C.f10.length c10, .slice A11 C.f11.length c11] 29)) from (Below.refl _ _).alloc (Nat.le_refl _) _)
  have H1 := Lib.hid (blk_new w (o := (Obj.cells #[.int .i64 C.f0, .slice A1 C.f1.length c1, .int .i64 C.f2, .int .i64 C.f3, .int .i64 C.f4, .int .i64 C.f5, .int .i64 C.f6, .int .i64 C.f7, .slice A8 C.f8.length c8, .slice A9 C.f9.length c9, .slice A10 C.f10.length c10, .slice A11 C.f11.length c11] 29)))
  clear h hC hz
  go_enter Try.func5, Try.ntmps5
  obtain ⟨gr, hgr⟩ : ∃ gr, gr = greatB C := ⟨_, rfl⟩
  have HG := Lib.hid hgr
  clear hgr
  go_wp2_with fail
  refine (great_calls _ _ _ _ _ _ _ _ _ _ C _ (HR.out.below HB.out)).mono ?_
  rintro e W1 ⟨rfl, hb⟩
  rw [← HG.out]
  replace H1 := Lib.hid (blk_keep hb H1.out)
  replace HB := Lib.hid (below_step HB.out hb)
  clear hb
  cases gr
  case true =>
    go_wp2
    go_ret
    exact ⟨rfl, HB.out⟩
  obtain ⟨g0, g1, g2, g3, g4, g5, g6, g7, g8, g9, g10, g11⟩ := cfg_cells H1.out
  go_wp2_with fail
  refine (twin_calls _ _ _ _ _ _ _ _ _ _ C _ (HR.out.below HB.out) HSZ.out).mono ?_
  rintro e W2 ⟨B1, B8, B9, B10, B11, d1, d8, d9, d10, d11, rfl, hin, hb⟩
  clear g0 g1 g2 g3 g4 g5 g6 g7 g8 g9 g10 g11
  have hba : Below W2.heap.size W2 (W2.alloc (Obj.cells #[.int .i64 C.f0, .slice B1 C.f1.length d1, .int .i64 C.f2, .int .i64 C.f3, .int .i64 C.f4, .int .i64 C.f5, .int .i64 C.f6, .int .i64 C.f7, .slice B8 C.f8.length d8, .slice B9 C.f9.length d9, .slice B10 C.f10.length d10, .slice B11 C.f11.length d11] 29)) := (Below.refl _ _).alloc (Nat.le_refl _) _
  have h1 := blk_keep hba (blk_keep hb H1.out)
  have hB := below_step (below_step HB.out hb) hba
  have h2 := blk_new W2 (Obj.cells #[.int .i64 C.f0, .slice B1 C.f1.length d1, .int .i64 C.f2, .int .i64 C.f3, .int .i64 C.f4, .int .i64 C.f5, .int .i64 C.f6, .int .i64 C.f7, .slice B8 C.f8.length d8, .slice B9 C.f9.length d9, .slice B10 C.f10.length d10, .slice B11 C.f11.length d11] 29)
  have hin2 := hin.below hba
  clear H1 HB hin hba hb
  go_wp2
  generalize hW0 : W2.alloc (Obj.cells #[.int .i64 C.f0, .slice B1 C.f1.length d1, .int .i64 C.f2, .int .i64 C.f3, .int .i64 C.f4, .int .i64 C.f5, .int .i64 C.f6, .int .i64 C.f7, .slice B8 C.f8.length d8, .slice B9 C.f9.length d9, .slice B10 C.f10.length d10, .slice B11 C.f11.length d11] 29) = W0 at *
  generalize W2.heap.size = cb at *
  clear hW0
  have HIN := Lib.hid hin2
  have HB := Lib.hid hB
  have H1 := Lib.hid h1
  have H2 := Lib.hid h2
  clear hin2 hB h1 h2
  obtain ⟨g0, g1, g2, g3, g4, g5, g6, g7, g8, g9, g10, g11⟩ := cfg_cells H1.out
  obtain ⟨k0, k1, k2, k3, k4, k5, k6, k7, k8, k9, k10, k11⟩ := cfg_cells H2.out
  obtain ⟨n, hn⟩ : ∃ n, n = checkN C := ⟨_, rfl⟩
  obtain ⟨pw, hpw⟩ : ∃ n, n = precW C := ⟨_, rfl⟩
  obtain ⟨ow, how⟩ : ∃ n, n = ownerW C slot := ⟨_, rfl⟩
  obtain ⟨tw, htw⟩ : ∃ n, n = idxI C.f1 node := ⟨_, rfl⟩
  have EN := Lib.hid hn
  have EP := Lib.hid hpw
  have EO := Lib.hid how
  have ET := Lib.hid htw
  clear hn hpw how htw
  have HRc := Lib.hid (HR.out.below HB.out)
  apply region_z (N := 36) (ds := []) #[false, false, false, false, false, false, false, false, false, false, false, false, false, false, false, false, false, false, false, false, false, false, false, false, false, false, false, false, false, false, false, false, false, false, false, false]
  · kernel_rfl
  · rfl
  · rfl
  · intro Wd hS
    refine take_ (i := 0) (N := some 12) (v := ?_) (a' := ?_) #[true, false, false, false, false, false, false, false, false, false, false, false, false, false, false, false, false, false, false, false, false, false, false, false, false, false, false, false, false, false, false, false, false, false, false, false] rfl rfl (by kernel_rfl) (fun _ _ _ h => by cases h.1) (Or.inl ⟨by rfl, ?_⟩) hS ?_ ?_
    rotate_left
    · intro w' hb
      have s0 := hb.cell k0
      have s1 := hb.cell k1
      have s2 := hb.cell k2
      have s3 := hb.cell k3
      have s4 := hb.cell k4
      have s5 := hb.cell k5
      have s6 := hb.cell k6
      have s7 := hb.cell k7
      have s8 := hb.cell k8
      have s9 := hb.cell k9
      have s10 := hb.cell k10
      have s11 := hb.cell k11
      go_simp
      with_reducible rfl
    rotate_left
    · simp only [Act.put, List.setIfInBounds_toArray, List.set_cons_zero, List.set_cons_succ]
      rfl
    refine take_ (i := 2) (N := some 14) (v := ?_) (a' := ?_) #[true, false, true, false, false, false, false, false, false, false, false, false, false, false, false, false, false, false, false, false, false, false, false, false, false, false, false, false, false, false, false, false, false, false, false, false] rfl rfl (by kernel_rfl) (fun _ _ _ h => by cases h.1) (Or.inl ⟨by rfl, ?_⟩) hS ?_ ?_
    rotate_left
    · intro w' hb
      have s0 := hb.cell g0
      have s1 := hb.cell g1
      have s2 := hb.cell g2
      have s3 := hb.cell g3
      have s4 := hb.cell g4
      have s5 := hb.cell g5
      have s6 := hb.cell g6
      have s7 := hb.cell g7
      have s8 := hb.cell g8
      have s9 := hb.cell g9
      have s10 := hb.cell g10
      have s11 := hb.cell g11
      go_simp
      with_reducible rfl
    rotate_left
    · simp only [Act.put, List.setIfInBounds_toArray, List.set_cons_zero, List.set_cons_succ]
      rfl
    refine one_ (i := 1) (N := some 13) #[true, true, true, false, false, false, false, false, false, false, false, false, false, false, false, false, false, false, false, false, false, false, false, false, false, false, false, false, false, false, false, false, false, false, false, false] rfl rfl (by kernel_rfl) (by simp) (fun K hK => ?_)
    go_simp
    refine (check_calls _ _ _ _ _ _ _ _ _ _ C _ (HIN.out.below hS)).mono ?_
    rintro e u1 ⟨rfl, hb⟩
    rw [← EN.out]
    have hS1 : Bz W0 u1 := Below.trans hS (hb.mono hS.size)
    refine hK.out _ _ hS1 (fun _ => ?_)
    clear hK K hb hS
    have hS := hS1
    refine one_ (i := 3) (N := some 15) #[true, true, true, true, false, false, false, false, false, false, false, false, false, false, false, false, false, false, false, false, false, false, false, false, false, false, false, false, false, false, false, false, false, false, false, false] rfl rfl (by kernel_rfl) (by simp) (fun K hK => ?_)
    go_simp
    refine (rcheck_calls _ _ _ _ _ _ _ _ _ _ C _ (HRc.out.below hS) HCO.out HSZ.out).mono ?_
    rintro e u3 ⟨rfl, hb⟩
    rw [← EN.out]
    have hS3 : Bz W0 u3 := Below.trans hS (hb.mono hS.size)
    refine hK.out _ _ hS3 (fun _ => ?_)
    clear hK K hb hS
    have hS := hS3
    refine pure_ (i := 4) (N := some 16) (v := ?_) (a' := ?_) #[true, true, true, true, true, false, false, false, false, false, false, false, false, false, false, false, false, false, false, false, false, false, false, false, false, false, false, false, false, false, false, false, false, false, false, false] rfl rfl (by kernel_rfl) (fun _ _ _ h => by cases h.1) (Or.inl ⟨by rfl, ?_⟩) ?_ ?_
    rotate_left
    · intro w'
      go_simp
      with_reducible rfl
    rotate_left
    · simp only [Act.put, List.setIfInBounds_toArray, List.set_cons_zero, List.set_cons_succ]
      rfl
    refine pure_ (i := 5) (N := some 17) (v := ?_) (a' := ?_) #[true, true, true, true, true, true, false, false, false, false, false, false, false, false, false, false, false, false, false, false, false, false, false, false, false, false, false, false, false, false, false, false, false, false, false, false] rfl rfl (by kernel_rfl) (fun _ _ _ h => by cases h.1) (Or.inl ⟨by rfl, ?_⟩) ?_ ?_
    rotate_left
    · intro w'
      go_simp
      with_reducible rfl
    rotate_left
    · simp only [Act.put, List.setIfInBounds_toArray, List.set_cons_zero, List.set_cons_succ]
      rfl
    refine take_ (i := 6) (N := some 18) (v := ?_) (a' := ?_) #[true, true, true, true, true, true, true, false, false, false, false, false, false, false, false, false, false, false, false, false, false, false, false, false, false, false, false, false, false, false, false, false, false, false, false, false] rfl rfl (by kernel_rfl) (fun _ _ _ h => by cases h.1) (Or.inl ⟨by rfl, ?_⟩) hS ?_ ?_
    rotate_left
    · intro w' hb
      have s0 := hb.cell k0
      have s1 := hb.cell k1
      have s2 := hb.cell k2
      have s3 := hb.cell k3
      have s4 := hb.cell k4
      have s5 := hb.cell k5
      have s6 := hb.cell k6
      have s7 := hb.cell k7
      have s8 := hb.cell k8
      have s9 := hb.cell k9
      have s10 := hb.cell k10
      have s11 := hb.cell k11
      go_simp
      with_reducible rfl
    rotate_left
    · simp only [Act.put, List.setIfInBounds_toArray, List.set_cons_zero, List.set_cons_succ]
      rfl
    refine take_ (i := 8) (N := some 20) (v := ?_) (a' := ?_) #[true, true, true, true, true, true, true, false, true, false, false, false, false, false, false, false, false, false, false, false, false, false, false, false, false, false, false, false, false, false, false, false, false, false, false, false] rfl rfl (by kernel_rfl) (fun _ _ _ h => by cases h.1) (Or.inl ⟨by rfl, ?_⟩) hS ?_ ?_
    rotate_left
    · intro w' hb
      have s0 := hb.cell g0
      have s1 := hb.cell g1
      have s2 := hb.cell g2
      have s3 := hb.cell g3
      have s4 := hb.cell g4
      have s5 := hb.cell g5
      have s6 := hb.cell g6
      have s7 := hb.cell g7
      have s8 := hb.cell g8
      have s9 := hb.cell g9
      have s10 := hb.cell g10
      have s11 := hb.cell g11
      go_simp
      with_reducible rfl
    rotate_left
    · simp only [Act.put, List.setIfInBounds_toArray, List.set_cons_zero, List.set_cons_succ]
      rfl
    refine one_ (i := 7) (N := some 19) #[true, true, true, true, true, true, true, true, true, false, false, false, false, false, false, false, false, false, false, false, false, false, false, false, false, false, false, false, false, false, false, false, false, false, false, false] rfl rfl (by kernel_rfl) (by simp) (fun K hK => ?_)
    go_simp
    refine (prec_calls _ _ _ _ _ _ _ _ _ _ C _).mono ?_
    rintro e u7 ⟨rfl, hb⟩
    rw [← EP.out]
    have hS7 : Bz W0 u7 := Below.trans hS (hb.mono hS.size)
    refine hK.out _ _ hS7 (fun _ => ?_)
    clear hK K hb hS
    have hS := hS7
    refine one_ (i := 9) (N := some 21) #[true, true, true, true, true, true, true, true, true, true, false, false, false, false, false, false, false, false, false, false, false, false, false, false, false, false, false, false, false, false, false, false, false, false, false, false] rfl rfl (by kernel_rfl) (by simp) (fun K hK => ?_)
    go_simp
    refine (rprec_calls _ _ _ _ _ _ _ _ _ _ C _).mono ?_
    rintro e u9 ⟨rfl, hb⟩
    rw [← EP.out]
    have hS9 : Bz W0 u9 := Below.trans hS (hb.mono hS.size)
    refine hK.out _ _ hS9 (fun _ => ?_)
    clear hK K hb hS
    have hS := hS9
    refine pure_ (i := 10) (N := some 22) (v := ?_) (a' := ?_) #[true, true, true, true, true, true, true, true, true, true, true, false, false, false, false, false, false, false, false, false, false, false, false, false, false, false, false, false, false, false, false, false, false, false, false, false] rfl rfl (by kernel_rfl) (fun _ _ _ h => by cases h.1) (Or.inl ⟨by rfl, ?_⟩) ?_ ?_
    rotate_left
    · intro w'
      go_simp
      with_reducible rfl
    rotate_left
    · simp only [Act.put, List.setIfInBounds_toArray, List.set_cons_zero, List.set_cons_succ]
      rfl
    refine pure_ (i := 11) (N := some 23) (v := ?_) (a' := ?_) #[true, true, true, true, true, true, true, true, true, true, true, true, false, false, false, false, false, false, false, false, false, false, false, false, false, false, false, false, false, false, false, false, false, false, false, false] rfl rfl (by kernel_rfl) (fun _ _ _ h => by cases h.1) (Or.inl ⟨by rfl, ?_⟩) ?_ ?_
    rotate_left
    · intro w'
      go_simp
      with_reducible rfl
    rotate_left
    · simp only [Act.put, List.setIfInBounds_toArray, List.set_cons_zero, List.set_cons_succ]
      rfl
    refine pure_ (i := 12) (N := some 24) (v := ?_) (a' := ?_) #[true, true, true, true, true, true, true, true, true, true, true, true, true, false, false, false, false, false, false, false, false, false, false, false, false, false, false, false, false, false, false, false, false, false, false, false] rfl rfl (by kernel_rfl) (fun _ _ _ h => by cases h.1) (Or.inl ⟨by rfl, ?_⟩) ?_ ?_
    rotate_left
    · intro w'
      go_simp
      with_reducible rfl
    rotate_left
    · simp only [Act.put, List.setIfInBounds_toArray, List.set_cons_zero, List.set_cons_succ]
      rfl
    refine take_ (i := 13) (N := some 25) (v := ?_) (a' := ?_) #[true, true, true, true, true, true, true, true, true, true, true, true, true, true, false, false, false, false, false, false, false, false, false, false, false, false, false, false, false, false, false, false, false, false, false, false] rfl rfl (by kernel_rfl) (fun _ _ _ h => by cases h.1) (Or.inl ⟨by rfl, ?_⟩) hS ?_ ?_
    rotate_left
    · intro w' hb
      have s0 := hb.cell k0
      have s1 := hb.cell k1
      have s2 := hb.cell k2
      have s3 := hb.cell k3
      have s4 := hb.cell k4
      have s5 := hb.cell k5
      have s6 := hb.cell k6
      have s7 := hb.cell k7
      have s8 := hb.cell k8
      have s9 := hb.cell k9
      have s10 := hb.cell k10
      have s11 := hb.cell k11
      go_simp
      with_reducible rfl
    rotate_left
    · simp only [Act.put, List.setIfInBounds_toArray, List.set_cons_zero, List.set_cons_succ]
      rfl
    refine pure_ (i := 14) (N := some 26) (v := ?_) (a' := ?_) #[true, true, true, true, true, true, true, true, true, true, true, true, true, true, true, false, false, false, false, false, false, false, false, false, false, false, false, false, false, false, false, false, false, false, false, false] rfl rfl (by kernel_rfl) (fun _ _ _ h => by cases h.1) (Or.inl ⟨by rfl, ?_⟩) ?_ ?_
    rotate_left
    · intro w'
      go_simp
      with_reducible rfl
    rotate_left
    · simp only [Act.put, List.setIfInBounds_toArray, List.set_cons_zero, List.set_cons_succ]
      rfl
    refine take_ (i := 16) (N := some 28) (v := ?_) (a' := ?_) #[true, true, true, true, true, true, true, true, true, true, true, true, true, true, true, false, true, false, false, false, false, false, false, false, false, false, false, false, false, false, false, false, false, false, false, false] rfl rfl (by kernel_rfl) (fun _ _ _ h => by cases h.1) (Or.inl ⟨by rfl, ?_⟩) hS ?_ ?_
    rotate_left
    · intro w' hb
      have s0 := hb.cell g0
      have s1 := hb.cell g1
      have s2 := hb.cell g2
      have s3 := hb.cell g3
      have s4 := hb.cell g4
      have s5 := hb.cell g5
      have s6 := hb.cell g6
      have s7 := hb.cell g7
      have s8 := hb.cell g8
      have s9 := hb.cell g9
      have s10 := hb.cell g10
      have s11 := hb.cell g11
      go_simp
      with_reducible rfl
    rotate_left
    · simp only [Act.put, List.setIfInBounds_toArray, List.set_cons_zero, List.set_cons_succ]
      rfl
    refine pure_ (i := 17) (N := some 29) (v := ?_) (a' := ?_) #[true, true, true, true, true, true, true, true, true, true, true, true, true, true, true, false, true, true, false, false, false, false, false, false, false, false, false, false, false, false, false, false, false, false, false, false] rfl rfl (by kernel_rfl) (fun _ _ _ h => by cases h.1) (Or.inl ⟨by rfl, ?_⟩) ?_ ?_
    rotate_left
    · intro w'
      go_simp
      with_reducible rfl
    rotate_left
    · simp only [Act.put, List.setIfInBounds_toArray, List.set_cons_zero, List.set_cons_succ]
      rfl
    refine one_ (i := 15) (N := some 27) #[true, true, true, true, true, true, true, true, true, true, true, true, true, true, true, true, true, true, false, false, false, false, false, false, false, false, false, false, false, false, false, false, false, false, false, false] rfl rfl (by kernel_rfl) (by simp) (fun K hK => ?_)
    go_simp
    refine (owner_calls _ _ _ _ _ _ _ _ _ _ C slot _ (HIN.out.below hS)).mono ?_
    rintro e u15 ⟨rfl, hb⟩
    rw [← EO.out]
    have hS15 : Bz W0 u15 := Below.trans hS (hb.mono hS.size)
    refine hK.out _ _ hS15 (fun _ => ?_)
    clear hK K hb hS
    have hS := hS15
    refine one_ (i := 18) (N := some 30) #[true, true, true, true, true, true, true, true, true, true, true, true, true, true, true, true, true, true, true, false, false, false, false, false, false, false, false, false, false, false, false, false, false, false, false, false] rfl rfl (by kernel_rfl) (by simp) (fun K hK => ?_)
    go_simp
    refine (rowner_calls _ _ _ _ _ _ _ _ _ _ C slot _ (HRc.out.below hS)).mono ?_
    rintro e u18 ⟨rfl, hb⟩
    rw [← EO.out]
    have hS18 : Bz W0 u18 := Below.trans hS (hb.mono hS.size)
    refine hK.out _ _ hS18 (fun _ => ?_)
    clear hK K hb hS
    have hS := hS18
    refine pure_ (i := 19) (N := some 31) (v := ?_) (a' := ?_) #[true, true, true, true, true, true, true, true, true, true, true, true, true, true, true, true, true, true, true, true, false, false, false, false, false, false, false, false, false, false, false, false, false, false, false, false] rfl rfl (by kernel_rfl) (fun _ _ _ h => by cases h.1) (Or.inl ⟨by rfl, ?_⟩) ?_ ?_
    rotate_left
    · intro w'
      go_simp
      with_reducible rfl
    rotate_left
    · simp only [Act.put, List.setIfInBounds_toArray, List.set_cons_zero, List.set_cons_succ]
      rfl
    refine pure_ (i := 20) (N := some 32) (v := ?_) (a' := ?_) #[true, true, true, true, true, true, true, true, true, true, true, true, true, true, true, true, true, true, true, true, true, false, false, false, false, false, false, false, false, false, false, false, false, false, false, false] rfl rfl (by kernel_rfl) (fun _ _ _ h => by cases h.1) (Or.inl ⟨by rfl, ?_⟩) ?_ ?_
    rotate_left
    · intro w'
      go_simp
      with_reducible rfl
    rotate_left
    · simp only [Act.put, List.setIfInBounds_toArray, List.set_cons_zero, List.set_cons_succ]
      rfl
    refine pure_ (i := 21) (N := some 33) (v := ?_) (a' := ?_) #[true, true, true, true, true, true, true, true, true, true, true, true, true, true, true, true, true, true, true, true, true, true, false, false, false, false, false, false, false, false, false, false, false, false, false, false] rfl rfl (by kernel_rfl) (fun _ _ _ h => by cases h.1) (Or.inl ⟨by rfl, ?_⟩) ?_ ?_
    rotate_left
    · intro w'
      go_simp
      with_reducible rfl
    rotate_left
    · simp only [Act.put, List.setIfInBounds_toArray, List.set_cons_zero, List.set_cons_succ]
      rfl
    refine take_ (i := 22) (N := some 34) (v := ?_) (a' := ?_) #[true, true, true, true, true, true, true, true, true, true, true, true, true, true, true, true, true, true, true, true, true, true, true, false, false, false, false, false, false, false, false, false, false, false, false, false] rfl rfl (by kernel_rfl) (fun _ _ _ h => by cases h.1) (Or.inl ⟨by rfl, ?_⟩) hS ?_ ?_
    rotate_left
    · intro w' hb
      have s0 := hb.cell k0
      have s1 := hb.cell k1
      have s2 := hb.cell k2
      have s3 := hb.cell k3
      have s4 := hb.cell k4
      have s5 := hb.cell k5
      have s6 := hb.cell k6
      have s7 := hb.cell k7
      have s8 := hb.cell k8
      have s9 := hb.cell k9
      have s10 := hb.cell k10
      have s11 := hb.cell k11
      go_simp
      with_reducible rfl
    rotate_left
    · simp only [Act.put, List.setIfInBounds_toArray, List.set_cons_zero, List.set_cons_succ]
      rfl
    refine pure_ (i := 23) (N := some 35) (v := ?_) (a' := ?_) #[true, true, true, true, true, true, true, true, true, true, true, true, true, true, true, true, true, true, true, true, true, true, true, true, false, false, false, false, false, false, false, false, false, false, false, false] rfl rfl (by kernel_rfl) (fun _ _ _ h => by cases h.1) (Or.inl ⟨by rfl, ?_⟩) ?_ ?_
    rotate_left
    · intro w'
      go_simp
      with_reducible rfl
    rotate_left
    · simp only [Act.put, List.setIfInBounds_toArray, List.set_cons_zero, List.set_cons_succ]
      rfl
    refine take_ (i := 25) (N := some 37) (v := ?_) (a' := ?_) #[true, true, true, true, true, true, true, true, true, true, true, true, true, true, true, true, true, true, true, true, true, true, true, true, false, true, false, false, false, false, false, false, false, false, false, false] rfl rfl (by kernel_rfl) (fun _ _ _ h => by cases h.1) (Or.inl ⟨by rfl, ?_⟩) hS ?_ ?_
    rotate_left
    · intro w' hb
      have s0 := hb.cell g0
      have s1 := hb.cell g1
      have s2 := hb.cell g2
      have s3 := hb.cell g3
      have s4 := hb.cell g4
      have s5 := hb.cell g5
      have s6 := hb.cell g6
      have s7 := hb.cell g7
      have s8 := hb.cell g8
      have s9 := hb.cell g9
      have s10 := hb.cell g10
      have s11 := hb.cell g11
      go_simp
      with_reducible rfl
    rotate_left
    · simp only [Act.put, List.setIfInBounds_toArray, List.set_cons_zero, List.set_cons_succ]
      rfl
    refine pure_ (i := 26) (N := some 38) (v := ?_) (a' := ?_) #[true, true, true, true, true, true, true, true, true, true, true, true, true, true, true, true, true, true, true, true, true, true, true, true, false, true, true, false, false, false, false, false, false, false, false, false] rfl rfl (by kernel_rfl) (fun _ _ _ h => by cases h.1) (Or.inl ⟨by rfl, ?_⟩) ?_ ?_
    rotate_left
    · intro w'
      go_simp
      with_reducible rfl
    rotate_left
    · simp only [Act.put, List.setIfInBounds_toArray, List.set_cons_zero, List.set_cons_succ]
      rfl
    refine one_ (i := 24) (N := some 36) #[true, true, true, true, true, true, true, true, true, true, true, true, true, true, true, true, true, true, true, true, true, true, true, true, true, true, true, false, false, false, false, false, false, false, false, false] rfl rfl (by kernel_rfl) (by simp) (fun K hK => ?_)
    go_simp
    refine (turn_calls _ _ _ _ _ _ _ _ _ _ C node _ (HIN.out.below hS)).mono ?_
    rintro e u24 ⟨rfl, hb⟩
    rw [← ET.out]
    have hS24 : Bz W0 u24 := Below.trans hS (hb.mono hS.size)
    refine hK.out _ _ hS24 (fun _ => ?_)
    clear hK K hb hS
    have hS := hS24
    refine one_ (i := 27) (N := some 39) #[true, true, true, true, true, true, true, true, true, true, true, true, true, true, true, true, true, true, true, true, true, true, true, true, true, true, true, true, false, false, false, false, false, false, false, false] rfl rfl (by kernel_rfl) (by simp) (fun K hK => ?_)
    go_simp
    refine (rturn_calls _ _ _ _ _ _ _ _ _ _ C node _ (HRc.out.below hS)).mono ?_
    rintro e u27 ⟨rfl, hb⟩
    rw [← ET.out]
    have hS27 : Bz W0 u27 := Below.trans hS (hb.mono hS.size)
    refine hK.out _ _ hS27 (fun _ => ?_)
    clear hK K hb hS
    have hS := hS27
    refine pure_ (i := 28) (N := some 40) (v := ?_) (a' := ?_) #[true, true, true, true, true, true, true, true, true, true, true, true, true, true, true, true, true, true, true, true, true, true, true, true, true, true, true, true, true, false, false, false, false, false, false, false] rfl rfl (by kernel_rfl) (fun _ _ _ h => by cases h.1) (Or.inl ⟨by rfl, ?_⟩) ?_ ?_
    rotate_left
    · intro w'
      go_simp
      with_reducible rfl
    rotate_left
    · simp only [Act.put, List.setIfInBounds_toArray, List.set_cons_zero, List.set_cons_succ]
      rfl
    refine pure_ (i := 29) (N := some 41) (v := ?_) (a' := ?_) #[true, true, true, true, true, true, true, true, true, true, true, true, true, true, true, true, true, true, true, true, true, true, true, true, true, true, true, true, true, true, false, false, false, false, false, false] rfl rfl (by kernel_rfl) (fun _ _ _ h => by cases h.1) (Or.inl ⟨by rfl, ?_⟩) ?_ ?_
    rotate_left
    · intro w'
      go_simp
      with_reducible rfl
    rotate_left
    · simp only [Act.put, List.setIfInBounds_toArray, List.set_cons_zero, List.set_cons_succ]
      rfl
    refine pure_ (i := 30) (N := some 42) (v := ?_) (a' := ?_) #[true, true, true, true, true, true, true, true, true, true, true, true, true, true, true, true, true, true, true, true, true, true, true, true, true, true, true, true, true, true, true, false, false, false, false, false] rfl rfl (by kernel_rfl) (fun _ _ _ h => by cases h.1) (Or.inl ⟨by rfl, ?_⟩) ?_ ?_
    rotate_left
    · intro w'
      go_simp
      with_reducible rfl
    rotate_left
    · simp only [Act.put, List.setIfInBounds_toArray, List.set_cons_zero, List.set_cons_succ]
      rfl
    refine take_ (i := 31) (N := some 43) (v := ?_) (a' := ?_) #[true, true, true, true, true, true, true, true, true, true, true, true, true, true, true, true, true, true, true, true, true, true, true, true, true, true, true, true, true, true, true, true, false, false, false, false] rfl rfl (by kernel_rfl) (fun _ _ _ h => by cases h.1) (Or.inl ⟨by rfl, ?_⟩) hS ?_ ?_
    rotate_left
    · intro w' hb
      have s0 := hb.cell k0
      have s1 := hb.cell k1
      have s2 := hb.cell k2
      have s3 := hb.cell k3
      have s4 := hb.cell k4
      have s5 := hb.cell k5
      have s6 := hb.cell k6
      have s7 := hb.cell k7
      have s8 := hb.cell k8
      have s9 := hb.cell k9
      have s10 := hb.cell k10
      have s11 := hb.cell k11
      go_simp
      with_reducible rfl
    rotate_left
    · simp only [Act.put, List.setIfInBounds_toArray, List.set_cons_zero, List.set_cons_succ]
      rfl
    refine take_ (i := 32) (N := some 44) (v := ?_) (a' := ?_) #[true, true, true, true, true, true, true, true, true, true, true, true, true, true, true, true, true, true, true, true, true, true, true, true, true, true, true, true, true, true, true, true, true, false, false, false] rfl rfl (by kernel_rfl) (fun _ _ _ h => by cases h.1) (Or.inl ⟨by rfl, ?_⟩) hS ?_ ?_
    rotate_left
    · intro w' hb
      have s0 := hb.cell g0
      have s1 := hb.cell g1
      have s2 := hb.cell g2
      have s3 := hb.cell g3
      have s4 := hb.cell g4
      have s5 := hb.cell g5
      have s6 := hb.cell g6
      have s7 := hb.cell g7
      have s8 := hb.cell g8
      have s9 := hb.cell g9
      have s10 := hb.cell g10
      have s11 := hb.cell g11
      go_simp
      with_reducible rfl
    rotate_left
    · simp only [Act.put, List.setIfInBounds_toArray, List.set_cons_zero, List.set_cons_succ]
      rfl
    refine one_ (i := 33) (N := some 45) #[true, true, true, true, true, true, true, true, true, true, true, true, true, true, true, true, true, true, true, true, true, true, true, true, true, true, true, true, true, true, true, true, true, true, false, false] rfl rfl (by kernel_rfl) (by simp) (fun K hK => ?_)
    go_simp
    refine (same_calls _ _ _ _ _ _ _ _ _ _ _ _ _ _ _ _ _ _ _ _ C _ (HIN.out.below hS) (HRc.out.below hS)).mono ?_
    rintro e u33 ⟨rfl, hb⟩
    have hS33 : Bz W0 u33 := Below.trans hS (hb.mono hS.size)
    refine hK.out _ _ hS33 (fun _ => ?_)
    clear hK K hb hS
    have hS := hS33
    refine pure_ (i := 34) (N := some 46) (v := ?_) (a' := ?_) #[true, true, true, true, true, true, true, true, true, true, true, true, true, true, true, true, true, true, true, true, true, true, true, true, true, true, true, true, true, true, true, true, true, true, true, false] rfl rfl (by kernel_rfl) (fun _ _ _ h => by cases h.1) (Or.inl ⟨by rfl, ?_⟩) ?_ ?_
    rotate_left
    · intro w'
      go_simp
      with_reducible rfl
    rotate_left
    · simp only [Act.put, List.setIfInBounds_toArray, List.set_cons_zero, List.set_cons_succ]
      rfl
    refine pure_ (i := 35) (N := some 6) (v := ?_) (a' := ?_) #[true, true, true, true, true, true, true, true, true, true, true, true, true, true, true, true, true, true, true, true, true, true, true, true, true, true, true, true, true, true, true, true, true, true, true, true] rfl rfl (by kernel_rfl) (fun _ _ _ h => by cases h.1) (Or.inl ⟨by rfl, ?_⟩) ?_ ?_
    rotate_left
    · intro w'
      go_simp
      with_reducible rfl
    rotate_left
    · simp only [Act.put, List.setIfInBounds_toArray, List.set_cons_zero, List.set_cons_succ]
      rfl
    refine done_ (by kernel_rfl) ?_
    exact ⟨rfl, rfl, hS⟩
  intro W9 hb
  have HB9 := Lib.hid (below_step HB.out hb)
  clear hb g0 g1 g2 g3 g4 g5 g6 g7 g8 g9 g10 g11 k0 k1 k2 k3 k4 k5 k6 k7 k8 k9 k10 k11
  go_wp2
  go_ret
  exact ⟨rfl, HB9.out⟩
end Go.Proofs.Ytehbabkgaecoaaa
