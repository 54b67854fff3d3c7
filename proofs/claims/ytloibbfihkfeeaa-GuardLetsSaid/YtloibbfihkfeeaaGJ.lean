/- What the statements' 'alive' answers. -/
import Derived.Test.YtloibbfihkfeeaaGI
namespace Go.Proofs.Ytloibbfihkfeeaa
set_option linter.unusedVariables false
set_option linter.unusedSimpArgs false
open Go.RowKit Go.Shelf Go.Proofs.YtloibbfihkfeeaaW.PrintWords Go.Proofs.YtloibbfihkfeeaaW.PrintLast

set_option maxRecDepth 100000 in
set_option maxHeartbeats 4000000 in
theorem alive_calls (w : World) : Calls Try.prog 23 #[] w fun e w' => e = .returned (.bool true) ∧ Below w.heap.size w w' := by
  obtain ⟨q0, q1, q2, q3⟩ := four_plan
  have HQ := Lib.hid (⟨q0, q1, q2, q3⟩ : _ ∧ _ ∧ _ ∧ _)
  clear q0 q1 q2 q3
  go_enter Try.func23, Try.ntmps23
  go_wp2_with fail
  refine (four_calls _).mono ?_
  rintro e w2 ⟨g, hg, rfl, h1, h2, h3, hb2⟩
  have HB2 := Lib.hid hb2
  have hin := Lib.hid (four_in h1 h2 h3)
  clear h1 h2 h3 hb2 hg
  go_wp2_with fail
  refine (plan_calls _ _ _ _ _ _ _ _ _ _ C4 _ hin.out 200 1 5).mono ?_
  rintro e w3 ⟨rfl, hb3⟩
  rw [HQ.out.1, HQ.out.2.1, HQ.out.2.2.1, HQ.out.2.2.2]
  have HB3 := Lib.hid (HB2.out.trans (hb3.mono HB2.out.size))
  clear hb3
  go_wp2_with fail
  have hX := blk_new w3 (Obj.cells #[.int .i64 0, .int .i64 255, .int .i64 335] 32)
  have HB := Lib.hid (HB3.out.alloc HB3.out.size (Obj.cells #[.int .i64 0, .int .i64 255, .int .i64 335] 32))
  generalize hW : w3.alloc (Obj.cells #[.int .i64 0, .int .i64 255, .int .i64 335] 32) = W at *
  generalize w3.heap.size = Z at *
  have x0 := blk_cell hX 0
  have x1 := blk_cell hX 1
  have x2 := blk_cell hX 2
  clear hW hX
  refine region_flat (S := Bw W) (N := 16) (σ := Unit) (ds := []) (fun _ => [(8, .int .i64 0), (9, .bool true), (10, .bool true), (11, .agg #[.int .i64 0, .int .i64 255, .int .i64 335]), (12, .agg #[.int .i64 0, .int .i64 255, .int .i64 335]), (13, .bool true), (14, .bool true), (15, .bool true), (16, .agg #[.int .i64 0, .int .i64 255, .int .i64 335]), (17, .bool true), (18, .bool true), (19, .bool true), (20, .agg #[.int .i64 1, .int .i64 255, .int .i64 335]), (21, .bool true), (22, .bool true), (0, .bool true)]) (fun _ w' => Below w.heap.size w w') #[false, false, false, false, false, false, false, false, false, false, false, false, false, false, false, false] (Bw.drew0 W) (by kernel_rfl) rfl rfl ?_ ?_
  · have hS := Bw.drew0 W
    generalize W.drew = Wd at hS ⊢
    refine pure_ (i := 0) (N := some 8) (v := ?_) (a' := ?_) #[true, false, false, false, false, false, false, false, false, false, false, false, false, false, false, false] rfl rfl (by kernel_rfl) (fun _ _ _ h => by cases h.1) (Or.inl ⟨by rfl, ?_⟩) ?_ ?_
    rotate_left
    · intro w'
      go_simp
      with_reducible rfl
    rotate_left
    · simp only [Act.put, List.setIfInBounds_toArray, List.set_cons_zero, List.set_cons_succ]
      rfl
    refine pure_ (i := 1) (N := some 9) (v := ?_) (a' := ?_) #[true, true, false, false, false, false, false, false, false, false, false, false, false, false, false, false] rfl rfl (by kernel_rfl) (fun _ _ _ h => by cases h.1) (Or.inl ⟨by rfl, ?_⟩) ?_ ?_
    rotate_left
    · intro w'
      go_simp
      with_reducible rfl
    rotate_left
    · simp only [Act.put, List.setIfInBounds_toArray, List.set_cons_zero, List.set_cons_succ]
      rfl
    refine pure_ (i := 2) (N := some 10) (v := ?_) (a' := ?_) #[true, true, true, false, false, false, false, false, false, false, false, false, false, false, false, false] rfl rfl (by kernel_rfl) (fun _ _ _ h => by cases h.1) (Or.inl ⟨by rfl, ?_⟩) ?_ ?_
    rotate_left
    · intro w'
      go_simp
      with_reducible rfl
    rotate_left
    · simp only [Act.put, List.setIfInBounds_toArray, List.set_cons_zero, List.set_cons_succ]
      rfl
    refine take_ (i := 3) (N := some 11) (v := ?_) (a' := ?_) #[true, true, true, true, false, false, false, false, false, false, false, false, false, false, false, false] rfl rfl (by kernel_rfl) (fun _ _ _ h => by cases h.1) (Or.inl ⟨by rfl, ?_⟩) hS ?_ ?_
    rotate_left
    · intro w' hb
      have s0 := hb.cell x0
      have s1 := hb.cell x1
      have s2 := hb.cell x2
      go_simp
      with_reducible rfl
    rotate_left
    · simp only [Act.put, List.setIfInBounds_toArray, List.set_cons_zero, List.set_cons_succ]
      rfl
    refine one_ (i := 4) (N := some 12) #[true, true, true, true, true, false, false, false, false, false, false, false, false, false, false, false] rfl rfl (by kernel_rfl) (by simp) (fun K hK => ?_)
    go_simp
    refine (shot_calls 0 255 335 _).mono ?_
    rintro e v4 ⟨rfl, hb4⟩
    have hS4 : Bw W v4 := Below.trans hS (hb4.mono hS.size)
    refine hK.out _ _ hS4 (fun _ => ?_)
    clear hK K hb4
    refine pure_ (i := 5) (N := some 13) (v := ?_) (a' := ?_) #[true, true, true, true, true, true, false, false, false, false, false, false, false, false, false, false] rfl rfl (by kernel_rfl) (fun _ _ _ h => by cases h.1) (Or.inl ⟨by rfl, ?_⟩) ?_ ?_
    rotate_left
    · intro w'
      go_simp
      with_reducible rfl
    rotate_left
    · simp only [Act.put, List.setIfInBounds_toArray, List.set_cons_zero, List.set_cons_succ]
      rfl
    refine pure_ (i := 6) (N := some 14) (v := ?_) (a' := ?_) #[true, true, true, true, true, true, true, false, false, false, false, false, false, false, false, false] rfl rfl (by kernel_rfl) (fun _ _ _ h => by cases h.1) (Or.inl ⟨by rfl, ?_⟩) ?_ ?_
    rotate_left
    · intro w'
      go_simp
      with_reducible rfl
    rotate_left
    · simp only [Act.put, List.setIfInBounds_toArray, List.set_cons_zero, List.set_cons_succ]
      rfl
    refine pure_ (i := 7) (N := some 15) (v := ?_) (a' := ?_) #[true, true, true, true, true, true, true, true, false, false, false, false, false, false, false, false] rfl rfl (by kernel_rfl) (fun _ _ _ h => by cases h.1) (Or.inl ⟨by rfl, ?_⟩) ?_ ?_
    rotate_left
    · intro w'
      go_simp
      with_reducible rfl
    rotate_left
    · simp only [Act.put, List.setIfInBounds_toArray, List.set_cons_zero, List.set_cons_succ]
      rfl
    have hS := hS4
    refine take_ (i := 8) (N := some 16) (v := ?_) (a' := ?_) #[true, true, true, true, true, true, true, true, true, false, false, false, false, false, false, false] rfl rfl (by kernel_rfl) (fun _ _ _ h => by cases h.1) (Or.inl ⟨by rfl, ?_⟩) hS ?_ ?_
    rotate_left
    · intro w' hb
      have s0 := hb.cell x0
      have s1 := hb.cell x1
      have s2 := hb.cell x2
      go_simp
      with_reducible rfl
    rotate_left
    · simp only [Act.put, List.setIfInBounds_toArray, List.set_cons_zero, List.set_cons_succ]
      rfl
    refine one_ (i := 9) (N := some 17) #[true, true, true, true, true, true, true, true, true, true, false, false, false, false, false, false] rfl rfl (by kernel_rfl) (by simp) (fun K hK => ?_)
    go_simp
    refine (is_calls ⟨0, 255, 335⟩ 0 _).mono ?_
    rintro e v9 ⟨rfl, hb9⟩
    rw [four_is.1]
    have hS9 : Bw W v9 := Below.trans hS4 (hb9.mono hS4.size)
    refine hK.out _ _ hS9 (fun _ => ?_)
    clear hK K hb9
    refine pure_ (i := 10) (N := some 18) (v := ?_) (a' := ?_) #[true, true, true, true, true, true, true, true, true, true, true, false, false, false, false, false] rfl rfl (by kernel_rfl) (fun _ _ _ h => by cases h.1) (Or.inl ⟨by rfl, ?_⟩) ?_ ?_
    rotate_left
    · intro w'
      go_simp
      with_reducible rfl
    rotate_left
    · simp only [Act.put, List.setIfInBounds_toArray, List.set_cons_zero, List.set_cons_succ]
      rfl
    refine pure_ (i := 11) (N := some 19) (v := ?_) (a' := ?_) #[true, true, true, true, true, true, true, true, true, true, true, true, false, false, false, false] rfl rfl (by kernel_rfl) (fun _ _ _ h => by cases h.1) (Or.inl ⟨by rfl, ?_⟩) ?_ ?_
    rotate_left
    · intro w'
      go_simp
      with_reducible rfl
    rotate_left
    · simp only [Act.put, List.setIfInBounds_toArray, List.set_cons_zero, List.set_cons_succ]
      rfl
    refine one_ (i := 12) (N := some 20) #[true, true, true, true, true, true, true, true, true, true, true, true, true, false, false, false] rfl rfl (by kernel_rfl) (by simp) (fun K hK => ?_)
    go_simp
    refine (shot_calls 1 255 335 _).mono ?_
    rintro e v12 ⟨rfl, hb12⟩
    have hS12 : Bw W v12 := Below.trans hS9 (hb12.mono hS9.size)
    refine hK.out _ _ hS12 (fun _ => ?_)
    clear hK K hb12
    refine one_ (i := 13) (N := some 21) #[true, true, true, true, true, true, true, true, true, true, true, true, true, true, false, false] rfl rfl (by kernel_rfl) (by simp) (fun K hK => ?_)
    go_simp
    refine (is_calls ⟨1, 255, 335⟩ 3 _).mono ?_
    rintro e v13 ⟨rfl, hb13⟩
    rw [four_is.2]
    have hS13 : Bw W v13 := Below.trans hS12 (hb13.mono hS12.size)
    refine hK.out _ _ hS13 (fun _ => ?_)
    clear hK K hb13
    refine pure_ (i := 14) (N := some 22) (v := ?_) (a' := ?_) #[true, true, true, true, true, true, true, true, true, true, true, true, true, true, true, false] rfl rfl (by kernel_rfl) (fun _ _ _ h => by cases h.1) (Or.inl ⟨by rfl, ?_⟩) ?_ ?_
    rotate_left
    · intro w'
      go_simp
      with_reducible rfl
    rotate_left
    · simp only [Act.put, List.setIfInBounds_toArray, List.set_cons_zero, List.set_cons_succ]
      rfl
    refine pure_ (i := 15) (N := some 0) (v := ?_) (a' := ?_) #[true, true, true, true, true, true, true, true, true, true, true, true, true, true, true, true] rfl rfl (by kernel_rfl) (fun _ _ _ h => by cases h.1) (Or.inl ⟨by rfl, ?_⟩) ?_ ?_
    rotate_left
    · intro w'
      go_simp
      with_reducible rfl
    rotate_left
    · simp only [Act.put, List.setIfInBounds_toArray, List.set_cons_zero, List.set_cons_succ]
      rfl
    refine done_ (by kernel_rfl) ?_
    exact ⟨rfl, (), by simp only [putAll, Act.put, List.setIfInBounds_toArray, List.set_cons_zero, List.set_cons_succ], HB.out.trans (hS13.mono HB.out.size)⟩
  rintro - W3 hb3
  simp only [putAll, Act.put, List.setIfInBounds_toArray, List.set_cons_zero, List.set_cons_succ]
  go_wp2
  go_ret
  exact ⟨rfl, hb3⟩
end Go.Proofs.Ytloibbfihkfeeaa
