/- What the statements' 'is' and 'alive' answer. -/
import Derived.Test.YtloibbfihkfeeaaGH
namespace Go.Proofs.Ytloibbfihkfeeaa
set_option linter.unusedVariables false
set_option linter.unusedSimpArgs false
open Go.RowKit Go.Shelf Go.Proofs.YtloibbfihkfeeaaW.PrintWords Go.Proofs.YtloibbfihkfeeaaW.PrintLast

set_option maxRecDepth 100000 in
set_option maxHeartbeats 4000000 in
theorem is_calls (x : Sh) (want : Int) (w : World) : Calls Try.prog 26 #[.agg #[.int .i64 x.f0, .int .i64 x.f1, .int .i64 x.f2], .int .i64 want] w fun e w' => e = .returned (.bool (isB x want)) ∧ Below w.heap.size w w' := by
  have HB := Lib.hid (show Below w.heap.size w (w.alloc (Obj.cells #[.int .i64 x.f0, .int .i64 x.f1, .int .i64 x.f2] 32)) from (Below.refl _ _).alloc (Nat.le_refl _) _)
  have hX := blk_new w (Obj.cells #[.int .i64 x.f0, .int .i64 x.f1, .int .i64 x.f2] 32)
  obtain ⟨b, hb⟩ : ∃ b, b = isB x want := ⟨_, rfl⟩
  rw [← hb]
  have HBB := Lib.hid hb
  clear hb
  obtain ⟨r, hr⟩ : ∃ r, r = isV x := ⟨_, rfl⟩
  have HRR := Lib.hid hr
  clear hr
  obtain ⟨m, hm⟩ : ∃ m, m = mayW C4 200 0 [x] := ⟨_, rfl⟩
  have HMM := Lib.hid hm
  clear hm
  go_enter Try.func26, Try.ntmps26
  go_wp2_with fail
  generalize hW : w.alloc (Obj.cells #[.int .i64 x.f0, .int .i64 x.f1, .int .i64 x.f2] 32) = W at *
  have x0 := blk_cell hX 0
  have x1 := blk_cell hX 1
  have x2 := blk_cell hX 2
  clear hW hX
  refine region_flat (S := Bw W) (N := 8) (σ := Nat) (ds := []) (fun g => [(9, .agg #[.int .i64 x.f0, .int .i64 x.f1, .int .i64 x.f2]), (8, V4 g), (10, .tuple #[.int .i64 r, .int .i64 m]), (7, .tuple #[.int .i64 r, .int .i64 m]), (11, .int .i64 r), (12, .int .i64 m), (5, .int .i64 r), (6, .int .i64 m)]) (fun _ w' => Below w.heap.size w w') #[false, false, false, false, false, false, false, false] (Bw.drew0 W) (by kernel_rfl) rfl rfl ?_ ?_
  · have hS := Bw.drew0 W
    generalize W.drew = Wd at hS ⊢
    refine take_ (i := 1) (N := some 9) (v := ?_) (a' := ?_) #[false, true, false, false, false, false, false, false] rfl rfl (by kernel_rfl) (fun _ _ _ h => by cases h.1) (Or.inl ⟨by rfl, ?_⟩) hS ?_ ?_
    rotate_left
    · intro w' hb
      have s0 := hb.cell x0
      have s1 := hb.cell x1
      have s2 := hb.cell x2
      go_simp
      with_reducible rfl
    rotate_left
    · simp only [Act.put, List.setIfInBounds_toArray, List.set_cons_zero, List.set_cons_succ]
      rfl
    refine one_ (i := 0) (N := some 8) #[true, true, false, false, false, false, false, false] rfl rfl (by kernel_rfl) (by simp) (fun K hK => ?_)
    go_simp
    refine (four_calls _).mono ?_
    rintro e w2 ⟨g, hg, rfl, h1, h2, h3, hb2⟩
    have hin := Lib.hid (four_in h1 h2 h3)
    have hS2 : Bw W w2 := Below.trans hS (hb2.mono hS.size)
    clear h1 h2 h3 hb2
    refine hK.out _ _ hS2 (fun _ => ?_)
    clear hK K
    refine one_ (i := 2) (N := some 10) #[true, true, true, false, false, false, false, false] rfl rfl (by kernel_rfl) (by simp) (fun K hK => ?_)
    go_simp
    refine (verdict_calls _ _ _ _ _ _ _ _ _ _ C4 _ hin.out 200 0 x).mono ?_
    rintro e w3 ⟨rfl, hb3⟩
    rw [← HMM.out, show (if m = 0 then verdictW C4 200 0 x else 0) = r by rw [HRR.out, isV, ← HMM.out]]
    have hS3 : Bw W w3 := Below.trans hS2 (hb3.mono hS2.size)
    refine hK.out _ _ hS3 (fun _ => ?_)
    clear hK K hb3
    refine pure_ (i := 3) (N := some 7) (v := ?_) (a' := ?_) #[true, true, true, true, false, false, false, false] rfl rfl (by kernel_rfl) (fun _ _ _ h => by cases h.1) (Or.inl ⟨by rfl, ?_⟩) ?_ ?_
    rotate_left
    · intro w'
      go_simp
      with_reducible rfl
    rotate_left
    · simp only [Act.put, List.setIfInBounds_toArray, List.set_cons_zero, List.set_cons_succ]
      rfl
    refine pure_ (i := 4) (N := some 11) (v := ?_) (a' := ?_) #[true, true, true, true, true, false, false, false] rfl rfl (by kernel_rfl) (fun _ _ _ h => by cases h.1) (Or.inl ⟨by rfl, ?_⟩) ?_ ?_
    rotate_left
    · intro w'
      go_simp
      with_reducible rfl
    rotate_left
    · simp only [Act.put, List.setIfInBounds_toArray, List.set_cons_zero, List.set_cons_succ]
      rfl
    refine pure_ (i := 5) (N := some 12) (v := ?_) (a' := ?_) #[true, true, true, true, true, true, false, false] rfl rfl (by kernel_rfl) (fun _ _ _ h => by cases h.1) (Or.inl ⟨by rfl, ?_⟩) ?_ ?_
    rotate_left
    · intro w'
      go_simp
      with_reducible rfl
    rotate_left
    · simp only [Act.put, List.setIfInBounds_toArray, List.set_cons_zero, List.set_cons_succ]
      rfl
    refine pure_ (i := 6) (N := some 5) (v := ?_) (a' := ?_) #[true, true, true, true, true, true, true, false] rfl rfl (by kernel_rfl) (fun _ _ _ h => by cases h.1) (Or.inl ⟨by rfl, ?_⟩) ?_ ?_
    rotate_left
    · intro w'
      go_simp
      with_reducible rfl
    rotate_left
    · simp only [Act.put, List.setIfInBounds_toArray, List.set_cons_zero, List.set_cons_succ]
      rfl
    refine pure_ (i := 7) (N := some 6) (v := ?_) (a' := ?_) #[true, true, true, true, true, true, true, true] rfl rfl (by kernel_rfl) (fun _ _ _ h => by cases h.1) (Or.inl ⟨by rfl, ?_⟩) ?_ ?_
    rotate_left
    · intro w'
      go_simp
      with_reducible rfl
    rotate_left
    · simp only [Act.put, List.setIfInBounds_toArray, List.set_cons_zero, List.set_cons_succ]
      rfl
    refine done_ (by kernel_rfl) ?_
    exact ⟨rfl, g, by simp only [putAll, Act.put, List.setIfInBounds_toArray, List.set_cons_zero, List.set_cons_succ], HB.out.trans (hS3.mono HB.out.size)⟩
  rintro g W3 hb3
  simp only [putAll, Act.put, List.setIfInBounds_toArray, List.set_cons_zero, List.set_cons_succ]
  have HB3 := Lib.hid hb3
  clear hb3 x0 x1 x2
  by_cases h1 : r = want
  · have e1 : (r == want) = true := by simpa using h1
    by_cases h2 : m = 0
    · have e2 : (m == 0) = true := by simpa using h2
      have hres := Lib.hid (show b = true by rw [HBB.out, isB, ← HRR.out, ← HMM.out, decide_eq_true h1, decide_eq_true h2]; rfl)
      clear h1 h2
      go_wp2
      go_ret
      exact ⟨ret_bool hres.out.symm, HB3.out⟩
    · have e2 : (m == 0) = false := by simpa using h2
      have hres := Lib.hid (show b = false by rw [HBB.out, isB, ← HRR.out, ← HMM.out, decide_eq_true h1, decide_eq_false h2]; rfl)
      clear h1 h2
      go_wp2
      go_ret
      exact ⟨ret_bool hres.out.symm, HB3.out⟩
  · have e1 : (r == want) = false := by simpa using h1
    have hres := Lib.hid (show b = false by rw [HBB.out, isB, ← HRR.out, ← HMM.out, decide_eq_false h1]; rfl)
    clear h1
    go_wp2
    go_ret
    exact ⟨ret_bool hres.out.symm, HB3.out⟩
end Go.Proofs.Ytloibbfihkfeeaa
