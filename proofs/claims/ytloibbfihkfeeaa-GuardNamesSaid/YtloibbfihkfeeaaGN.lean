/- GuardNames: the examples of the chapter. -/
import Derived.Test.YtloibbfihkfeeaaGJ
namespace Go.Proofs.Ytloibbfihkfeeaa
open Go.RowKit Go.Shelf Go.Proofs.YtloibbfihkfeeaaW.PrintWords Go.Proofs.YtloibbfihkfeeaaW.PrintLast

/-- A drawing region whose frame is found by the walk. -/
theorem region_end {P : Program} {ops : Array Oper} {Q : Exit → Act → World → Prop} {id N : Nat} {a : Act} {w : World} {S : World → Prop} {ds : List Nat} {A : Act} (R : World → Prop) (lst : Array Bool) (hS : S w.drew) (hm : P.follows .mixedOrders = true) (hN : ops.size = N) (hl : Array.replicate N false = lst)
    (h1 : wpAnyLast P .any ops (fun e a' w' => e = .normal ∧ a' = A ∧ R w') S ds N lst a w.drew)
    (h2 : ∀ w', R w' → Q .normal A w') : (Code.region id ops true).wp P Q a w := by
  refine wp_mono (Q := fun e a' w' => e = .normal ∧ a' = A ∧ R w') (start_ lst hm hN hl hS (fun _ => h1)) ?_
  rintro e a' w' ⟨rfl, rfl, hr⟩
  exact h2 w' hr
def C0 : S28 := ⟨0, [], 0, 0, 0, 0, 0, 0, [], [], [], []⟩
theorem zero_in (W : World) : CfgIn W C0 none none none none none 0 0 0 0 0 :=
  ⟨⟨Nat.le_refl _, Kd.C_nil _ _⟩, ⟨Nat.le_refl _, Kd.C_nil _ _⟩, ⟨Nat.le_refl _, Kd.C_nil _ _⟩, ⟨Nat.le_refl _, Kd.C_nil _ _⟩, Nat.le_refl _, Kd.C_nil _ _⟩
theorem three_row {W : World} {b : Nat} {x y z : Sh} (h : W.heap[b]? = some (Obj.cells #[.int .i64 x.f0, .int .i64 x.f1, .int .i64 x.f2, .int .i64 y.f0, .int .i64 y.f1, .int .i64 y.f2, .int .i64 z.f0, .int .i64 z.f1, .int .i64 z.f2] 32)) : Kd.C k32 W (some ⟨b, 0, none⟩) ([x, y, z] : List Sh).length [x, y, z] := by
  refine ⟨rfl, by simp, fun _ => ⟨_, rfl, fun j p hj => ⟨[.int .i64 p.f0, .int .i64 p.f1, .int .i64 p.f2], rfl, k32_mk _ p, fun i u hu => ?_⟩⟩⟩
  have hc := fun i => blk_cell h i
  match j, hj with
  | 0, hj => simp at hj; subst hj; match i, hu with
    | 0, hu => simp at hu; subst hu; exact hc 0
    | 1, hu => simp at hu; subst hu; exact hc 1
    | 2, hu => simp at hu; subst hu; exact hc 2
    | i + 3, hu => simp at hu
  | 1, hj => simp at hj; subst hj; match i, hu with
    | 0, hu => simp at hu; subst hu; exact hc 3
    | 1, hu => simp at hu; subst hu; exact hc 4
    | 2, hu => simp at hu; subst hu; exact hc 5
    | i + 3, hu => simp at hu
  | 2, hj => simp at hj; subst hj; match i, hu with
    | 0, hu => simp at hu; subst hu; exact hc 6
    | 1, hu => simp at hu; subst hu; exact hc 7
    | 2, hu => simp at hu; subst hu; exact hc 8
    | i + 3, hu => simp at hu
  | j + 3, hj => simp at hj
def L3 : List Sh := [⟨0, 255, 335⟩, ⟨0, 300, 310⟩, ⟨2, 0, 200⟩]
theorem v_thr : mayW C4 200 0 L3 = 0 ∧ thr C4 200 0 L3 L3.length = [0, 4, 0] := by decide +kernel
theorem v_is0 : isB ⟨0, 190, 210⟩ 2 = true := by decide +kernel
theorem v_is1 : isB ⟨0, 5, 5⟩ 1 = true := by decide +kernel
theorem v_is2 : isB ⟨2, (-1), 3⟩ 2 = true := by decide +kernel
theorem v_is3 : isB ⟨2, 0, 200⟩ 0 = true := by decide +kernel
theorem v_is4 : isB ⟨2, 0, 201⟩ 2 = true := by decide +kernel
theorem v_is5 : isB ⟨2, 800, 801⟩ 0 = true := by decide +kernel
theorem v_plan0 : (planW C4 200 (-1) 0).1.f0 = 0 ∧ (planW C4 200 (-1) 0).1.f1 = 0 ∧ (planW C4 200 (-1) 0).1.f2 = 0 ∧ (planW C4 200 (-1) 0).2 = 2 := by decide +kernel
theorem v_plan1 : (planW C4 120 1 0).1.f0 = 0 ∧ (planW C4 120 1 0).1.f1 = 0 ∧ (planW C4 120 1 0).1.f2 = 0 ∧ (planW C4 120 1 0).2 = 200 := by decide +kernel
theorem v_plan2 : (planW C4 121 1 0).1.f0 = 0 ∧ (planW C4 121 1 0).1.f1 = 181 ∧ (planW C4 121 1 0).1.f2 = 182 ∧ (planW C4 121 1 0).2 = 0 := by decide +kernel
theorem v_plan3 : (planW C4 16777217 1 0).1.f0 = 0 ∧ (planW C4 16777217 1 0).1.f1 = 0 ∧ (planW C4 16777217 1 0).1.f2 = 0 ∧ (planW C4 16777217 1 0).2 = 200 := by decide +kernel
theorem v_plan4 : (planW C4 200 2147483648 0).1.f0 = 0 ∧ (planW C4 200 2147483648 0).1.f1 = 0 ∧ (planW C4 200 2147483648 0).1.f2 = 0 ∧ (planW C4 200 2147483648 0).2 = 2 := by decide +kernel
theorem v_plan5 : (planW C4 200 1 1073741825).1.f0 = 0 ∧ (planW C4 200 1 1073741825).1.f1 = 0 ∧ (planW C4 200 1 1073741825).1.f2 = 0 ∧ (planW C4 200 1 1073741825).2 = 2 := by decide +kernel
theorem v_verdict : (if mayW C4 200 0 [⟨0, -1152921504606846977, 0⟩] = 0 then verdictW C4 200 0 ⟨0, -1152921504606846977, 0⟩ else 0) = 0 ∧ mayW C4 200 0 [⟨0, -1152921504606846977, 0⟩] = 2 := by decide +kernel
theorem v_slot0 : (if mayW C0 200 0 [⟨0, 0, 1⟩] = 0 then liesW 200 0 ⟨0, 0, 1⟩ else 0) = 0 ∧ mayW C0 200 0 [⟨0, 0, 1⟩] = 21 := by decide +kernel
theorem v_slot1 : (if mayW C4 200 (-30) [⟨9, 230, 240⟩] = 0 then liesW 200 (-30) ⟨9, 230, 240⟩ else 0) = 1 ∧ mayW C4 200 (-30) [⟨9, 230, 240⟩] = 0 := by decide +kernel
theorem v_slot2 : (if mayW C4 200 (-31) [⟨9, 230, 240⟩] = 0 then liesW 200 (-31) ⟨9, 230, 240⟩ else 0) = -1 ∧ mayW C4 200 (-31) [⟨9, 230, 240⟩] = 0 := by decide +kernel
set_option maxRecDepth 100000 in
set_option maxHeartbeats 16000000 in
theorem names_calls (w : World) : Calls Try.prog 7 #[] w fun e w' => e = .returned (.bool true) ∧ Below w.heap.size w w' := by
  go_enter Try.func7, Try.ntmps7
  go_wp2_with fail
  refine (four_calls _).mono ?_
  rintro e W0 ⟨g, hg, rfl, h1, h2, h3, hb⟩
  unfold V4
  have HB0 := Lib.hid hb
  have HI0 := Lib.hid (four_in h1 h2 h3)
  clear h1 h2 h3 hb hg
  go_wp2_with fail
  have HC := Lib.hid (blk_new W0 (Obj.cells #[.int .i64 4, .slice (some ⟨g + 1, 0, none⟩) 4 4, .int .i64 10, .int .i64 2, .int .i64 60, .int .i64 60, .int .i64 1, .int .i64 1, .slice none 0 0, .slice (some ⟨g + 2, 0, none⟩) 4 4, .slice none 0 0, .slice none 0 0] 28))
  have HB := Lib.hid (HB0.out.alloc HB0.out.size (Obj.cells #[.int .i64 4, .slice (some ⟨g + 1, 0, none⟩) 4 4, .int .i64 10, .int .i64 2, .int .i64 60, .int .i64 60, .int .i64 1, .int .i64 1, .slice none 0 0, .slice (some ⟨g + 2, 0, none⟩) 4 4, .slice none 0 0, .slice none 0 0] 28))
  have HI := Lib.hid (HI0.out.below ((Below.refl W0.heap.size W0).alloc (Nat.le_refl _) (Obj.cells #[.int .i64 4, .slice (some ⟨g + 1, 0, none⟩) 4 4, .int .i64 10, .int .i64 2, .int .i64 60, .int .i64 60, .int .i64 1, .int .i64 1, .slice none 0 0, .slice (some ⟨g + 2, 0, none⟩) 4 4, .slice none 0 0, .slice none 0 0] 28)))
  clear HI0 HB0
  refine (shot_calls 0 190 210 _).mono ?_
  rintro e W ⟨rfl, hb⟩
  generalize W0.heap.size = cb at *
  replace HC := Lib.hid (blk_keep hb HC.out)
  replace HI := Lib.hid (HI.out.below hb)
  replace HB := Lib.hid (below_step HB.out hb)
  clear hb
  go_wp2_with fail
  refine (is_calls ⟨0, 190, 210⟩ 2 _).mono ?_
  rintro e W' ⟨rfl, hb⟩
  rw [v_is0]
  replace HC := Lib.hid (blk_keep hb HC.out)
  replace HI := Lib.hid (HI.out.below hb)
  replace HB := Lib.hid (below_step HB.out hb)
  clear hb
  go_wp2_with fail
  refine (shot_calls 0 5 5 _).mono ?_
  rintro e W ⟨rfl, hb⟩
  replace HC := Lib.hid (blk_keep hb HC.out)
  replace HI := Lib.hid (HI.out.below hb)
  replace HB := Lib.hid (below_step HB.out hb)
  clear hb
  go_wp2_with fail
  refine (is_calls ⟨0, 5, 5⟩ 1 _).mono ?_
  rintro e W' ⟨rfl, hb⟩
  rw [v_is1]
  replace HC := Lib.hid (blk_keep hb HC.out)
  replace HI := Lib.hid (HI.out.below hb)
  replace HB := Lib.hid (below_step HB.out hb)
  clear hb
  go_wp2_with fail
  refine (shot_calls 2 (-1) 3 _).mono ?_
  rintro e W ⟨rfl, hb⟩
  replace HC := Lib.hid (blk_keep hb HC.out)
  replace HI := Lib.hid (HI.out.below hb)
  replace HB := Lib.hid (below_step HB.out hb)
  clear hb
  go_wp2_with fail
  refine (is_calls ⟨2, (-1), 3⟩ 2 _).mono ?_
  rintro e W' ⟨rfl, hb⟩
  rw [v_is2]
  replace HC := Lib.hid (blk_keep hb HC.out)
  replace HI := Lib.hid (HI.out.below hb)
  replace HB := Lib.hid (below_step HB.out hb)
  clear hb
  go_wp2_with fail
  refine (shot_calls 2 0 200 _).mono ?_
  rintro e W ⟨rfl, hb⟩
  replace HC := Lib.hid (blk_keep hb HC.out)
  replace HI := Lib.hid (HI.out.below hb)
  replace HB := Lib.hid (below_step HB.out hb)
  clear hb
  go_wp2_with fail
  refine (is_calls ⟨2, 0, 200⟩ 0 _).mono ?_
  rintro e W' ⟨rfl, hb⟩
  rw [v_is3]
  replace HC := Lib.hid (blk_keep hb HC.out)
  replace HI := Lib.hid (HI.out.below hb)
  replace HB := Lib.hid (below_step HB.out hb)
  clear hb
  go_wp2_with fail
  refine (shot_calls 2 0 201 _).mono ?_
  rintro e W ⟨rfl, hb⟩
  replace HC := Lib.hid (blk_keep hb HC.out)
  replace HI := Lib.hid (HI.out.below hb)
  replace HB := Lib.hid (below_step HB.out hb)
  clear hb
  go_wp2_with fail
  refine (is_calls ⟨2, 0, 201⟩ 2 _).mono ?_
  rintro e W' ⟨rfl, hb⟩
  rw [v_is4]
  replace HC := Lib.hid (blk_keep hb HC.out)
  replace HI := Lib.hid (HI.out.below hb)
  replace HB := Lib.hid (below_step HB.out hb)
  clear hb
  go_wp2_with fail
  refine (shot_calls 2 800 801 _).mono ?_
  rintro e W ⟨rfl, hb⟩
  replace HC := Lib.hid (blk_keep hb HC.out)
  replace HI := Lib.hid (HI.out.below hb)
  replace HB := Lib.hid (below_step HB.out hb)
  clear hb
  go_wp2_with fail
  refine (is_calls ⟨2, 800, 801⟩ 0 _).mono ?_
  rintro e W' ⟨rfl, hb⟩
  rw [v_is5]
  replace HC := Lib.hid (blk_keep hb HC.out)
  replace HI := Lib.hid (HI.out.below hb)
  replace HB := Lib.hid (below_step HB.out hb)
  clear hb
  go_wp2_with fail
  have g0 := blk_cell HC.out 0
  have g1 := blk_cell HC.out 1
  have g2 := blk_cell HC.out 2
  have g3 := blk_cell HC.out 3
  have g4 := blk_cell HC.out 4
  have g5 := blk_cell HC.out 5
  have g6 := blk_cell HC.out 6
  have g7 := blk_cell HC.out 7
  have g8 := blk_cell HC.out 8
  have g9 := blk_cell HC.out 9
  have g10 := blk_cell HC.out 10
  have g11 := blk_cell HC.out 11
  have hlt0 := blk_lt HC.out
  refine region_flat (S := Bw W') (N := 11) (σ := Nat × Nat × Nat) (ds := []) (fun z => [(50, .agg #[.int .i64 4, .slice (some ⟨g + 1, 0, none⟩) 4 4, .int .i64 10, .int .i64 2, .int .i64 60, .int .i64 60, .int .i64 1, .int .i64 1, .slice none 0 0, .slice (some ⟨g + 2, 0, none⟩) 4 4, .slice none 0 0, .slice none 0 0]), (51, .agg #[.int .i64 0, .int .i64 255, .int .i64 335]), (52, .agg #[.int .i64 0, .int .i64 300, .int .i64 310]), (53, .agg #[.int .i64 2, .int .i64 0, .int .i64 200]), (54, .slice (some ⟨z.1, 0, none⟩) 3 3), (55, .tuple #[.slice (some ⟨z.2.1, 0, none⟩) 3 z.2.2, .int .i64 0]), (49, .tuple #[.slice (some ⟨z.2.1, 0, none⟩) 3 z.2.2, .int .i64 0]), (56, .slice (some ⟨z.2.1, 0, none⟩) 3 z.2.2), (57, .int .i64 0), (3, .slice (some ⟨z.2.1, 0, none⟩) 3 z.2.2), (4, .int .i64 0)]) (fun z w' => Bw W' w' ∧ ∃ base, Kd.R kI 3 w' base (fun _ => True) (.slice (some ⟨z.2.1, 0, none⟩) 3 z.2.2) [0, 4, 0]) #[false, false, false, false, false, false, false, false, false, false, false] (Bw.drew0 W') (by kernel_rfl) rfl rfl ?_ ?_
  · have hS := Bw.drew0 W'
    generalize W'.drew = Wd at hS ⊢
    refine take_ (i := 0) (N := some 50) (v := ?_) (a' := ?_) #[true, false, false, false, false, false, false, false, false, false, false] rfl rfl (by kernel_rfl) (fun _ _ _ h => by cases h.1) (Or.inl ⟨by rfl, ?_⟩) hS ?_ ?_
    rotate_left
    · intro w' hb
      have s0 := hb.cell g0
      have s1 := hb.cell g1
      have s2 := hb.cell g2
      have s3 := hb.cell g3
      have s4 := hb.cell g4
      have s5 := hb.cell g5
      have s6 := hb.cell g6
      have s7 := hb.cell g7
      have s8 := hb.cell g8
      have s9 := hb.cell g9
      have s10 := hb.cell g10
      have s11 := hb.cell g11
      go_simp
      with_reducible rfl
    rotate_left
    · simp only [Act.put, List.setIfInBounds_toArray, List.set_cons_zero, List.set_cons_succ]
      rfl
    refine one_ (i := 1) (N := some 51) #[true, true, false, false, false, false, false, false, false, false, false] rfl rfl (by kernel_rfl) (by simp) (fun K hK => ?_)
    go_simp
    refine (shot_calls 0 255 335 _).mono ?_
    rintro e u1 ⟨rfl, hb⟩
    have hSu1 : Bw W' u1 := Below.trans hS (hb.mono hS.size)
    refine hK.out _ _ hSu1 (fun _ => ?_)
    clear hK K hb
    refine one_ (i := 2) (N := some 52) #[true, true, true, false, false, false, false, false, false, false, false] rfl rfl (by kernel_rfl) (by simp) (fun K hK => ?_)
    go_simp
    refine (shot_calls 0 300 310 _).mono ?_
    rintro e u2 ⟨rfl, hb⟩
    have hSu2 : Bw W' u2 := Below.trans hSu1 (hb.mono hSu1.size)
    refine hK.out _ _ hSu2 (fun _ => ?_)
    clear hK K hb
    refine one_ (i := 3) (N := some 53) #[true, true, true, true, false, false, false, false, false, false, false] rfl rfl (by kernel_rfl) (by simp) (fun K hK => ?_)
    go_simp
    refine (shot_calls 2 0 200 _).mono ?_
    rintro e u3 ⟨rfl, hb⟩
    have hSu3 : Bw W' u3 := Below.trans hSu2 (hb.mono hSu2.size)
    refine hK.out _ _ hSu3 (fun _ => ?_)
    clear hK K hb
    refine one_ (i := 4) (N := some 54) #[true, true, true, true, true, false, false, false, false, false, false] rfl rfl (by kernel_rfl) (by simp) (fun K hK => ?_)
    go_simp
    have hS4 : Bw W' (u3.alloc (Obj.cells #[.int .i64 0, .int .i64 255, .int .i64 335, .int .i64 0, .int .i64 300, .int .i64 310, .int .i64 2, .int .i64 0, .int .i64 200] 32)) := Below.alloc hSu3 hSu3.size _
    refine hK.out _ _ hS4 (fun _ => ?_)
    clear hK K
    have hrow := three_row (x := ⟨0, 255, 335⟩) (y := ⟨0, 300, 310⟩) (z := ⟨2, 0, 200⟩) (blk_new u3 (Obj.cells #[.int .i64 0, .int .i64 255, .int .i64 335, .int .i64 0, .int .i64 300, .int .i64 310, .int .i64 2, .int .i64 0, .int .i64 200] 32))
    refine one_ (i := 5) (N := some 55) #[true, true, true, true, true, true, false, false, false, false, false] rfl rfl (by kernel_rfl) (by simp) (fun K hK => ?_)
    go_simp
    refine (through_calls _ _ _ _ _ _ _ _ _ _ C4 _ (HI.out.below hS4) 200 0 _ 3 L3 hrow (by decide)).mono ?_
    rintro e u5 ⟨v, rfl, hR, hb⟩
    rw [v_thr.1] at hR ⊢
    rw [if_pos rfl, v_thr.2] at hR
    obtain ⟨gg, cc, rfl, -, -, -⟩ := Kd.R_form hR (by decide)
    have hSu5 : Bw W' u5 := Below.trans hS4 (hb.mono hS4.size)
    refine hK.out _ _ hSu5 (fun _ => ?_)
    clear hK K hb
    refine pure_ (i := 6) (N := some 49) (v := ?_) (a' := ?_) #[true, true, true, true, true, true, true, false, false, false, false] rfl rfl (by kernel_rfl) (fun _ _ _ h => by cases h.1) (Or.inl ⟨by rfl, ?_⟩) ?_ ?_
    rotate_left
    · intro w'
      go_simp
      with_reducible rfl
    rotate_left
    · simp only [Act.put, List.setIfInBounds_toArray, List.set_cons_zero, List.set_cons_succ]
      rfl
    refine pure_ (i := 7) (N := some 56) (v := ?_) (a' := ?_) #[true, true, true, true, true, true, true, true, false, false, false] rfl rfl (by kernel_rfl) (fun _ _ _ h => by cases h.1) (Or.inl ⟨by rfl, ?_⟩) ?_ ?_
    rotate_left
    · intro w'
      go_simp
      with_reducible rfl
    rotate_left
    · simp only [Act.put, List.setIfInBounds_toArray, List.set_cons_zero, List.set_cons_succ]
      rfl
    refine pure_ (i := 8) (N := some 57) (v := ?_) (a' := ?_) #[true, true, true, true, true, true, true, true, true, false, false] rfl rfl (by kernel_rfl) (fun _ _ _ h => by cases h.1) (Or.inl ⟨by rfl, ?_⟩) ?_ ?_
    rotate_left
    · intro w'
      go_simp
      with_reducible rfl
    rotate_left
    · simp only [Act.put, List.setIfInBounds_toArray, List.set_cons_zero, List.set_cons_succ]
      rfl
    refine pure_ (i := 9) (N := some 3) (v := ?_) (a' := ?_) #[true, true, true, true, true, true, true, true, true, true, false] rfl rfl (by kernel_rfl) (fun _ _ _ h => by cases h.1) (Or.inl ⟨by rfl, ?_⟩) ?_ ?_
    rotate_left
    · intro w'
      go_simp
      with_reducible rfl
    rotate_left
    · simp only [Act.put, List.setIfInBounds_toArray, List.set_cons_zero, List.set_cons_succ]
      rfl
    refine pure_ (i := 10) (N := some 4) (v := ?_) (a' := ?_) #[true, true, true, true, true, true, true, true, true, true, true] rfl rfl (by kernel_rfl) (fun _ _ _ h => by cases h.1) (Or.inl ⟨by rfl, ?_⟩) ?_ ?_
    rotate_left
    · intro w'
      go_simp
      with_reducible rfl
    rotate_left
    · simp only [Act.put, List.setIfInBounds_toArray, List.set_cons_zero, List.set_cons_succ]
      rfl
    refine done_ (by kernel_rfl) ?_
    exact ⟨rfl, (u3.heap.size, gg, cc), by simp only [putAll, Act.put, List.setIfInBounds_toArray, List.set_cons_zero, List.set_cons_succ]; rfl, hSu5, _, hR⟩
  rintro ⟨b3, gg, cc⟩ W3 ⟨hb, base, hR⟩
  simp only [putAll, Act.put, List.setIfInBounds_toArray, List.set_cons_zero, List.set_cons_succ]
  clear g0 g1 g2 g3 g4 g5 g6 g7 g8 g9 g10 g11 hlt0
  dsimp only at hR
  have HRr := Lib.hid hR
  replace HC := Lib.hid (blk_keep hb HC.out)
  replace HI := Lib.hid (HI.out.below hb)
  replace HB := Lib.hid (below_step HB.out hb)
  clear hb hR
  have g0 := blk_cell HC.out 0
  have g1 := blk_cell HC.out 1
  have g2 := blk_cell HC.out 2
  have g3 := blk_cell HC.out 3
  have g4 := blk_cell HC.out 4
  have g5 := blk_cell HC.out 5
  have g6 := blk_cell HC.out 6
  have g7 := blk_cell HC.out 7
  have g8 := blk_cell HC.out 8
  have g9 := blk_cell HC.out 9
  have g10 := blk_cell HC.out 10
  have g11 := blk_cell HC.out 11
  have hlt0 := blk_lt HC.out
  go_wp2_with fail
  refine (plan_calls _ _ _ _ _ _ _ _ _ _ C4 _ HI.out 200 (-1) 0).mono ?_
  clear g0 g1 g2 g3 g4 g5 g6 g7 g8 g9 g10 g11 hlt0
  rintro e P0 ⟨rfl, hb⟩
  rw [v_plan0.1, v_plan0.2.1, v_plan0.2.2.1, v_plan0.2.2.2]
  replace HC := Lib.hid (blk_keep hb HC.out)
  replace HI := Lib.hid (HI.out.below hb)
  replace HRr := Lib.hid (Kd.R_below HRr.out hb)
  replace HB := Lib.hid (below_step HB.out hb)
  clear hb
  have g0 := blk_cell HC.out 0
  have g1 := blk_cell HC.out 1
  have g2 := blk_cell HC.out 2
  have g3 := blk_cell HC.out 3
  have g4 := blk_cell HC.out 4
  have g5 := blk_cell HC.out 5
  have g6 := blk_cell HC.out 6
  have g7 := blk_cell HC.out 7
  have g8 := blk_cell HC.out 8
  have g9 := blk_cell HC.out 9
  have g10 := blk_cell HC.out 10
  have g11 := blk_cell HC.out 11
  have hlt0 := blk_lt HC.out
  go_wp2_with fail
  refine (plan_calls _ _ _ _ _ _ _ _ _ _ C4 _ (HI.out.below ((Below.refl _ _).alloc (Nat.le_refl _) _)) 120 1 0).mono ?_
  clear g0 g1 g2 g3 g4 g5 g6 g7 g8 g9 g10 g11 hlt0
  rintro e P1 ⟨rfl, hb⟩
  rw [v_plan1.1, v_plan1.2.1, v_plan1.2.2.1, v_plan1.2.2.2]
  replace HC := Lib.hid (blk_keep hb (blk_alloc HC.out _))
  replace HI := Lib.hid ((HI.out.below ((Below.refl _ _).alloc (Nat.le_refl _) _)).below hb)
  replace HRr := Lib.hid (Kd.R_below (Kd.R_alloc HRr.out _) hb)
  replace HB := Lib.hid (below_step (HB.out.alloc HB.out.size _) hb)
  clear hb
  have g0 := blk_cell HC.out 0
  have g1 := blk_cell HC.out 1
  have g2 := blk_cell HC.out 2
  have g3 := blk_cell HC.out 3
  have g4 := blk_cell HC.out 4
  have g5 := blk_cell HC.out 5
  have g6 := blk_cell HC.out 6
  have g7 := blk_cell HC.out 7
  have g8 := blk_cell HC.out 8
  have g9 := blk_cell HC.out 9
  have g10 := blk_cell HC.out 10
  have g11 := blk_cell HC.out 11
  have hlt0 := blk_lt HC.out
  go_wp2_with fail
  refine (plan_calls _ _ _ _ _ _ _ _ _ _ C4 _ (HI.out.below ((Below.refl _ _).alloc (Nat.le_refl _) _)) 121 1 0).mono ?_
  clear g0 g1 g2 g3 g4 g5 g6 g7 g8 g9 g10 g11 hlt0
  rintro e P2 ⟨rfl, hb⟩
  rw [v_plan2.1, v_plan2.2.1, v_plan2.2.2.1, v_plan2.2.2.2]
  replace HC := Lib.hid (blk_keep hb (blk_alloc HC.out _))
  replace HI := Lib.hid ((HI.out.below ((Below.refl _ _).alloc (Nat.le_refl _) _)).below hb)
  replace HRr := Lib.hid (Kd.R_below (Kd.R_alloc HRr.out _) hb)
  replace HB := Lib.hid (below_step (HB.out.alloc HB.out.size _) hb)
  clear hb
  have g0 := blk_cell HC.out 0
  have g1 := blk_cell HC.out 1
  have g2 := blk_cell HC.out 2
  have g3 := blk_cell HC.out 3
  have g4 := blk_cell HC.out 4
  have g5 := blk_cell HC.out 5
  have g6 := blk_cell HC.out 6
  have g7 := blk_cell HC.out 7
  have g8 := blk_cell HC.out 8
  have g9 := blk_cell HC.out 9
  have g10 := blk_cell HC.out 10
  have g11 := blk_cell HC.out 11
  have hlt0 := blk_lt HC.out
  go_wp2_with fail
  refine (plan_calls _ _ _ _ _ _ _ _ _ _ C4 _ (HI.out.below ((Below.refl _ _).alloc (Nat.le_refl _) _)) 16777217 1 0).mono ?_
  clear g0 g1 g2 g3 g4 g5 g6 g7 g8 g9 g10 g11 hlt0
  rintro e P3 ⟨rfl, hb⟩
  rw [v_plan3.1, v_plan3.2.1, v_plan3.2.2.1, v_plan3.2.2.2]
  replace HC := Lib.hid (blk_keep hb (blk_alloc HC.out _))
  replace HI := Lib.hid ((HI.out.below ((Below.refl _ _).alloc (Nat.le_refl _) _)).below hb)
  replace HRr := Lib.hid (Kd.R_below (Kd.R_alloc HRr.out _) hb)
  replace HB := Lib.hid (below_step (HB.out.alloc HB.out.size _) hb)
  clear hb
  have g0 := blk_cell HC.out 0
  have g1 := blk_cell HC.out 1
  have g2 := blk_cell HC.out 2
  have g3 := blk_cell HC.out 3
  have g4 := blk_cell HC.out 4
  have g5 := blk_cell HC.out 5
  have g6 := blk_cell HC.out 6
  have g7 := blk_cell HC.out 7
  have g8 := blk_cell HC.out 8
  have g9 := blk_cell HC.out 9
  have g10 := blk_cell HC.out 10
  have g11 := blk_cell HC.out 11
  have hlt0 := blk_lt HC.out
  go_wp2_with fail
  refine (plan_calls _ _ _ _ _ _ _ _ _ _ C4 _ (HI.out.below ((Below.refl _ _).alloc (Nat.le_refl _) _)) 200 2147483648 0).mono ?_
  clear g0 g1 g2 g3 g4 g5 g6 g7 g8 g9 g10 g11 hlt0
  rintro e P4 ⟨rfl, hb⟩
  rw [v_plan4.1, v_plan4.2.1, v_plan4.2.2.1, v_plan4.2.2.2]
  replace HC := Lib.hid (blk_keep hb (blk_alloc HC.out _))
  replace HI := Lib.hid ((HI.out.below ((Below.refl _ _).alloc (Nat.le_refl _) _)).below hb)
  replace HRr := Lib.hid (Kd.R_below (Kd.R_alloc HRr.out _) hb)
  replace HB := Lib.hid (below_step (HB.out.alloc HB.out.size _) hb)
  clear hb
  have g0 := blk_cell HC.out 0
  have g1 := blk_cell HC.out 1
  have g2 := blk_cell HC.out 2
  have g3 := blk_cell HC.out 3
  have g4 := blk_cell HC.out 4
  have g5 := blk_cell HC.out 5
  have g6 := blk_cell HC.out 6
  have g7 := blk_cell HC.out 7
  have g8 := blk_cell HC.out 8
  have g9 := blk_cell HC.out 9
  have g10 := blk_cell HC.out 10
  have g11 := blk_cell HC.out 11
  have hlt0 := blk_lt HC.out
  go_wp2_with fail
  refine (plan_calls _ _ _ _ _ _ _ _ _ _ C4 _ (HI.out.below ((Below.refl _ _).alloc (Nat.le_refl _) _)) 200 1 1073741825).mono ?_
  clear g0 g1 g2 g3 g4 g5 g6 g7 g8 g9 g10 g11 hlt0
  rintro e P5 ⟨rfl, hb⟩
  rw [v_plan5.1, v_plan5.2.1, v_plan5.2.2.1, v_plan5.2.2.2]
  replace HC := Lib.hid (blk_keep hb (blk_alloc HC.out _))
  replace HI := Lib.hid ((HI.out.below ((Below.refl _ _).alloc (Nat.le_refl _) _)).below hb)
  replace HRr := Lib.hid (Kd.R_below (Kd.R_alloc HRr.out _) hb)
  replace HB := Lib.hid (below_step (HB.out.alloc HB.out.size _) hb)
  clear hb
  go_wp2_with fail
  replace HC := Lib.hid (blk_alloc HC.out (Obj.cells #[.int .i64 0, .int .i64 0, .int .i64 0] 32))
  replace HI := Lib.hid (HI.out.below ((Below.refl P5.heap.size P5).alloc (Nat.le_refl _) (Obj.cells #[.int .i64 0, .int .i64 0, .int .i64 0] 32)))
  replace HRr := Lib.hid (Kd.R_alloc HRr.out (Obj.cells #[.int .i64 0, .int .i64 0, .int .i64 0] 32))
  replace HB := Lib.hid (HB.out.alloc HB.out.size (Obj.cells #[.int .i64 0, .int .i64 0, .int .i64 0] 32))
  generalize P5.alloc (Obj.cells #[.int .i64 0, .int .i64 0, .int .i64 0] 32) = X0 at *
  have g0 := blk_cell HC.out 0
  have g1 := blk_cell HC.out 1
  have g2 := blk_cell HC.out 2
  have g3 := blk_cell HC.out 3
  have g4 := blk_cell HC.out 4
  have g5 := blk_cell HC.out 5
  have g6 := blk_cell HC.out 6
  have g7 := blk_cell HC.out 7
  have g8 := blk_cell HC.out 8
  have g9 := blk_cell HC.out 9
  have g10 := blk_cell HC.out 10
  have g11 := blk_cell HC.out 11
  have hlt0 := blk_lt HC.out
  apply region_end (S := Bw X0) (N := 8) (ds := []) (fun w' => Bw X0 w') #[false, false, false, false, false, false, false, false]
  · exact Bw.drew0 X0
  · kernel_rfl
  · rfl
  · rfl
  · have hS := Bw.drew0 X0
    generalize X0.drew = Wd at hS ⊢
    refine take_ (i := 0) (N := some 89) (v := ?_) (a' := ?_) #[true, false, false, false, false, false, false, false] rfl rfl (by kernel_rfl) (fun _ _ _ h => by cases h.1) (Or.inl ⟨by rfl, ?_⟩) hS ?_ ?_
    rotate_left
    · intro w' hb
      have s0 := hb.cell g0
      have s1 := hb.cell g1
      have s2 := hb.cell g2
      have s3 := hb.cell g3
      have s4 := hb.cell g4
      have s5 := hb.cell g5
      have s6 := hb.cell g6
      have s7 := hb.cell g7
      have s8 := hb.cell g8
      have s9 := hb.cell g9
      have s10 := hb.cell g10
      have s11 := hb.cell g11
      go_simp
      with_reducible rfl
    rotate_left
    · simp only [Act.put, List.setIfInBounds_toArray, List.set_cons_zero, List.set_cons_succ]
      rfl
    refine one_ (i := 1) (N := some 90) #[true, true, false, false, false, false, false, false] rfl rfl (by kernel_rfl) (by simp) (fun K hK => ?_)
    go_simp
    refine (shot_calls 0 (-1152921504606846977) 0 _).mono ?_
    rintro e u1 ⟨rfl, hb⟩
    have hSu1 : Bw X0 u1 := Below.trans hS (hb.mono hS.size)
    refine hK.out _ _ hSu1 (fun _ => ?_)
    clear hK K hb
    refine one_ (i := 2) (N := some 91) #[true, true, true, false, false, false, false, false] rfl rfl (by kernel_rfl) (by simp) (fun K hK => ?_)
    go_simp
    refine (verdict_calls _ _ _ _ _ _ _ _ _ _ C4 _ (HI.out.below hSu1) 200 0 ⟨0, -1152921504606846977, 0⟩).mono ?_
    rintro e u2 ⟨rfl, hb⟩
    rw [v_verdict.1, v_verdict.2]
    have hSu2 : Bw X0 u2 := Below.trans hSu1 (hb.mono hSu1.size)
    refine hK.out _ _ hSu2 (fun _ => ?_)
    clear hK K hb
    refine pure_ (i := 3) (N := some 88) (v := ?_) (a' := ?_) #[true, true, true, true, false, false, false, false] rfl rfl (by kernel_rfl) (fun _ _ _ h => by cases h.1) (Or.inl ⟨by rfl, ?_⟩) ?_ ?_
    rotate_left
    · intro w'
      go_simp
      with_reducible rfl
    rotate_left
    · simp only [Act.put, List.setIfInBounds_toArray, List.set_cons_zero, List.set_cons_succ]
      rfl
    refine pure_ (i := 4) (N := some 92) (v := ?_) (a' := ?_) #[true, true, true, true, true, false, false, false] rfl rfl (by kernel_rfl) (fun _ _ _ h => by cases h.1) (Or.inl ⟨by rfl, ?_⟩) ?_ ?_
    rotate_left
    · intro w'
      go_simp
      with_reducible rfl
    rotate_left
    · simp only [Act.put, List.setIfInBounds_toArray, List.set_cons_zero, List.set_cons_succ]
      rfl
    refine pure_ (i := 5) (N := some 93) (v := ?_) (a' := ?_) #[true, true, true, true, true, true, false, false] rfl rfl (by kernel_rfl) (fun _ _ _ h => by cases h.1) (Or.inl ⟨by rfl, ?_⟩) ?_ ?_
    rotate_left
    · intro w'
      go_simp
      with_reducible rfl
    rotate_left
    · simp only [Act.put, List.setIfInBounds_toArray, List.set_cons_zero, List.set_cons_succ]
      rfl
    refine pure_ (i := 6) (N := some 17) (v := ?_) (a' := ?_) #[true, true, true, true, true, true, true, false] rfl rfl (by kernel_rfl) (fun _ _ _ h => by cases h.1) (Or.inl ⟨by rfl, ?_⟩) ?_ ?_
    rotate_left
    · intro w'
      go_simp
      with_reducible rfl
    rotate_left
    · simp only [Act.put, List.setIfInBounds_toArray, List.set_cons_zero, List.set_cons_succ]
      rfl
    refine pure_ (i := 7) (N := some 18) (v := ?_) (a' := ?_) #[true, true, true, true, true, true, true, true] rfl rfl (by kernel_rfl) (fun _ _ _ h => by cases h.1) (Or.inl ⟨by rfl, ?_⟩) ?_ ?_
    rotate_left
    · intro w'
      go_simp
      with_reducible rfl
    rotate_left
    · simp only [Act.put, List.setIfInBounds_toArray, List.set_cons_zero, List.set_cons_succ]
      rfl
    refine done_ (by kernel_rfl) ?_
    exact ⟨rfl, rfl, hSu2⟩
  clear g0 g1 g2 g3 g4 g5 g6 g7 g8 g9 g10 g11 hlt0
  intro X1 hb
  replace HC := Lib.hid (blk_keep hb HC.out)
  replace HI := Lib.hid (HI.out.below hb)
  replace HRr := Lib.hid (Kd.R_below HRr.out hb)
  replace HB := Lib.hid (below_step HB.out hb)
  clear hb
  go_wp2_with fail
  refine (shot_calls 0 0 1 _).mono ?_
  rintro e X2 ⟨rfl, hb⟩
  replace HC := Lib.hid (blk_keep hb HC.out)
  replace HI := Lib.hid (HI.out.below hb)
  replace HRr := Lib.hid (Kd.R_below HRr.out hb)
  replace HB := Lib.hid (below_step HB.out hb)
  clear hb
  go_wp2_with fail
  refine (slot_calls _ _ _ _ _ _ _ _ _ _ C0 _ (zero_in _) 200 0 ⟨0, 0, 1⟩).mono ?_
  rintro e X3 ⟨rfl, hb⟩
  rw [v_slot0.1, v_slot0.2]
  replace HC := Lib.hid (blk_keep hb HC.out)
  replace HI := Lib.hid (HI.out.below hb)
  replace HRr := Lib.hid (Kd.R_below HRr.out hb)
  replace HB := Lib.hid (below_step HB.out hb)
  clear hb
  go_wp2_with fail
  have g0 := blk_cell HC.out 0
  have g1 := blk_cell HC.out 1
  have g2 := blk_cell HC.out 2
  have g3 := blk_cell HC.out 3
  have g4 := blk_cell HC.out 4
  have g5 := blk_cell HC.out 5
  have g6 := blk_cell HC.out 6
  have g7 := blk_cell HC.out 7
  have g8 := blk_cell HC.out 8
  have g9 := blk_cell HC.out 9
  have g10 := blk_cell HC.out 10
  have g11 := blk_cell HC.out 11
  have hlt0 := blk_lt HC.out
  apply region_end (S := Bw X3) (N := 8) (ds := []) (fun w' => Bw X3 w') #[false, false, false, false, false, false, false, false]
  · exact Bw.drew0 X3
  · kernel_rfl
  · rfl
  · rfl
  · have hS := Bw.drew0 X3
    generalize X3.drew = Wd at hS ⊢
    refine take_ (i := 0) (N := some 101) (v := ?_) (a' := ?_) #[true, false, false, false, false, false, false, false] rfl rfl (by kernel_rfl) (fun _ _ _ h => by cases h.1) (Or.inl ⟨by rfl, ?_⟩) hS ?_ ?_
    rotate_left
    · intro w' hb
      have s0 := hb.cell g0
      have s1 := hb.cell g1
      have s2 := hb.cell g2
      have s3 := hb.cell g3
      have s4 := hb.cell g4
      have s5 := hb.cell g5
      have s6 := hb.cell g6
      have s7 := hb.cell g7
      have s8 := hb.cell g8
      have s9 := hb.cell g9
      have s10 := hb.cell g10
      have s11 := hb.cell g11
      go_simp
      with_reducible rfl
    rotate_left
    · simp only [Act.put, List.setIfInBounds_toArray, List.set_cons_zero, List.set_cons_succ]
      rfl
    refine one_ (i := 1) (N := some 102) #[true, true, false, false, false, false, false, false] rfl rfl (by kernel_rfl) (by simp) (fun K hK => ?_)
    go_simp
    refine (shot_calls 9 230 240 _).mono ?_
    rintro e u1 ⟨rfl, hb⟩
    have hSu1 : Bw X3 u1 := Below.trans hS (hb.mono hS.size)
    refine hK.out _ _ hSu1 (fun _ => ?_)
    clear hK K hb
    refine one_ (i := 2) (N := some 103) #[true, true, true, false, false, false, false, false] rfl rfl (by kernel_rfl) (by simp) (fun K hK => ?_)
    go_simp
    refine (slot_calls _ _ _ _ _ _ _ _ _ _ C4 _ (HI.out.below hSu1) 200 (-30) ⟨9, 230, 240⟩).mono ?_
    rintro e u2 ⟨rfl, hb⟩
    rw [v_slot1.1, v_slot1.2]
    have hSu2 : Bw X3 u2 := Below.trans hSu1 (hb.mono hSu1.size)
    refine hK.out _ _ hSu2 (fun _ => ?_)
    clear hK K hb
    refine pure_ (i := 3) (N := some 100) (v := ?_) (a' := ?_) #[true, true, true, true, false, false, false, false] rfl rfl (by kernel_rfl) (fun _ _ _ h => by cases h.1) (Or.inl ⟨by rfl, ?_⟩) ?_ ?_
    rotate_left
    · intro w'
      go_simp
      with_reducible rfl
    rotate_left
    · simp only [Act.put, List.setIfInBounds_toArray, List.set_cons_zero, List.set_cons_succ]
      rfl
    refine pure_ (i := 4) (N := some 104) (v := ?_) (a' := ?_) #[true, true, true, true, true, false, false, false] rfl rfl (by kernel_rfl) (fun _ _ _ h => by cases h.1) (Or.inl ⟨by rfl, ?_⟩) ?_ ?_
    rotate_left
    · intro w'
      go_simp
      with_reducible rfl
    rotate_left
    · simp only [Act.put, List.setIfInBounds_toArray, List.set_cons_zero, List.set_cons_succ]
      rfl
    refine pure_ (i := 5) (N := some 105) (v := ?_) (a' := ?_) #[true, true, true, true, true, true, false, false] rfl rfl (by kernel_rfl) (fun _ _ _ h => by cases h.1) (Or.inl ⟨by rfl, ?_⟩) ?_ ?_
    rotate_left
    · intro w'
      go_simp
      with_reducible rfl
    rotate_left
    · simp only [Act.put, List.setIfInBounds_toArray, List.set_cons_zero, List.set_cons_succ]
      rfl
    refine pure_ (i := 6) (N := some 21) (v := ?_) (a' := ?_) #[true, true, true, true, true, true, true, false] rfl rfl (by kernel_rfl) (fun _ _ _ h => by cases h.1) (Or.inl ⟨by rfl, ?_⟩) ?_ ?_
    rotate_left
    · intro w'
      go_simp
      with_reducible rfl
    rotate_left
    · simp only [Act.put, List.setIfInBounds_toArray, List.set_cons_zero, List.set_cons_succ]
      rfl
    refine pure_ (i := 7) (N := some 22) (v := ?_) (a' := ?_) #[true, true, true, true, true, true, true, true] rfl rfl (by kernel_rfl) (fun _ _ _ h => by cases h.1) (Or.inl ⟨by rfl, ?_⟩) ?_ ?_
    rotate_left
    · intro w'
      go_simp
      with_reducible rfl
    rotate_left
    · simp only [Act.put, List.setIfInBounds_toArray, List.set_cons_zero, List.set_cons_succ]
      rfl
    refine done_ (by kernel_rfl) ?_
    exact ⟨rfl, rfl, hSu2⟩
  clear g0 g1 g2 g3 g4 g5 g6 g7 g8 g9 g10 g11 hlt0
  intro X4 hb
  replace HC := Lib.hid (blk_keep hb HC.out)
  replace HI := Lib.hid (HI.out.below hb)
  replace HRr := Lib.hid (Kd.R_below HRr.out hb)
  replace HB := Lib.hid (below_step HB.out hb)
  clear hb
  go_wp2_with fail
  have g0 := blk_cell HC.out 0
  have g1 := blk_cell HC.out 1
  have g2 := blk_cell HC.out 2
  have g3 := blk_cell HC.out 3
  have g4 := blk_cell HC.out 4
  have g5 := blk_cell HC.out 5
  have g6 := blk_cell HC.out 6
  have g7 := blk_cell HC.out 7
  have g8 := blk_cell HC.out 8
  have g9 := blk_cell HC.out 9
  have g10 := blk_cell HC.out 10
  have g11 := blk_cell HC.out 11
  have hlt0 := blk_lt HC.out
  apply region_end (S := Bw X4) (N := 8) (ds := []) (fun w' => Bw X4 w') #[false, false, false, false, false, false, false, false]
  · exact Bw.drew0 X4
  · kernel_rfl
  · rfl
  · rfl
  · have hS := Bw.drew0 X4
    generalize X4.drew = Wd at hS ⊢
    refine take_ (i := 0) (N := some 107) (v := ?_) (a' := ?_) #[true, false, false, false, false, false, false, false] rfl rfl (by kernel_rfl) (fun _ _ _ h => by cases h.1) (Or.inl ⟨by rfl, ?_⟩) hS ?_ ?_
    rotate_left
    · intro w' hb
      have s0 := hb.cell g0
      have s1 := hb.cell g1
      have s2 := hb.cell g2
      have s3 := hb.cell g3
      have s4 := hb.cell g4
      have s5 := hb.cell g5
      have s6 := hb.cell g6
      have s7 := hb.cell g7
      have s8 := hb.cell g8
      have s9 := hb.cell g9
      have s10 := hb.cell g10
      have s11 := hb.cell g11
      go_simp
      with_reducible rfl
    rotate_left
    · simp only [Act.put, List.setIfInBounds_toArray, List.set_cons_zero, List.set_cons_succ]
      rfl
    refine one_ (i := 1) (N := some 108) #[true, true, false, false, false, false, false, false] rfl rfl (by kernel_rfl) (by simp) (fun K hK => ?_)
    go_simp
    refine (shot_calls 9 230 240 _).mono ?_
    rintro e u1 ⟨rfl, hb⟩
    have hSu1 : Bw X4 u1 := Below.trans hS (hb.mono hS.size)
    refine hK.out _ _ hSu1 (fun _ => ?_)
    clear hK K hb
    refine one_ (i := 2) (N := some 109) #[true, true, true, false, false, false, false, false] rfl rfl (by kernel_rfl) (by simp) (fun K hK => ?_)
    go_simp
    refine (slot_calls _ _ _ _ _ _ _ _ _ _ C4 _ (HI.out.below hSu1) 200 (-31) ⟨9, 230, 240⟩).mono ?_
    rintro e u2 ⟨rfl, hb⟩
    rw [v_slot2.1, v_slot2.2]
    have hSu2 : Bw X4 u2 := Below.trans hSu1 (hb.mono hSu1.size)
    refine hK.out _ _ hSu2 (fun _ => ?_)
    clear hK K hb
    refine pure_ (i := 3) (N := some 106) (v := ?_) (a' := ?_) #[true, true, true, true, false, false, false, false] rfl rfl (by kernel_rfl) (fun _ _ _ h => by cases h.1) (Or.inl ⟨by rfl, ?_⟩) ?_ ?_
    rotate_left
    · intro w'
      go_simp
      with_reducible rfl
    rotate_left
    · simp only [Act.put, List.setIfInBounds_toArray, List.set_cons_zero, List.set_cons_succ]
      rfl
    refine pure_ (i := 4) (N := some 110) (v := ?_) (a' := ?_) #[true, true, true, true, true, false, false, false] rfl rfl (by kernel_rfl) (fun _ _ _ h => by cases h.1) (Or.inl ⟨by rfl, ?_⟩) ?_ ?_
    rotate_left
    · intro w'
      go_simp
      with_reducible rfl
    rotate_left
    · simp only [Act.put, List.setIfInBounds_toArray, List.set_cons_zero, List.set_cons_succ]
      rfl
    refine pure_ (i := 5) (N := some 111) (v := ?_) (a' := ?_) #[true, true, true, true, true, true, false, false] rfl rfl (by kernel_rfl) (fun _ _ _ h => by cases h.1) (Or.inl ⟨by rfl, ?_⟩) ?_ ?_
    rotate_left
    · intro w'
      go_simp
      with_reducible rfl
    rotate_left
    · simp only [Act.put, List.setIfInBounds_toArray, List.set_cons_zero, List.set_cons_succ]
      rfl
    refine pure_ (i := 6) (N := some 23) (v := ?_) (a' := ?_) #[true, true, true, true, true, true, true, false] rfl rfl (by kernel_rfl) (fun _ _ _ h => by cases h.1) (Or.inl ⟨by rfl, ?_⟩) ?_ ?_
    rotate_left
    · intro w'
      go_simp
      with_reducible rfl
    rotate_left
    · simp only [Act.put, List.setIfInBounds_toArray, List.set_cons_zero, List.set_cons_succ]
      rfl
    refine pure_ (i := 7) (N := some 24) (v := ?_) (a' := ?_) #[true, true, true, true, true, true, true, true] rfl rfl (by kernel_rfl) (fun _ _ _ h => by cases h.1) (Or.inl ⟨by rfl, ?_⟩) ?_ ?_
    rotate_left
    · intro w'
      go_simp
      with_reducible rfl
    rotate_left
    · simp only [Act.put, List.setIfInBounds_toArray, List.set_cons_zero, List.set_cons_succ]
      rfl
    refine done_ (by kernel_rfl) ?_
    exact ⟨rfl, rfl, hSu2⟩
  clear g0 g1 g2 g3 g4 g5 g6 g7 g8 g9 g10 g11 hlt0
  intro X5 hb
  replace HC := Lib.hid (blk_keep hb HC.out)
  replace HI := Lib.hid (HI.out.below hb)
  replace HRr := Lib.hid (Kd.R_below HRr.out hb)
  replace HB := Lib.hid (below_step HB.out hb)
  clear hb
  have r0 := (Kd.R_cell (0 : Int) HRr.out 0 (by decide) (by decide)).1
  have r1 := (Kd.R_cell (0 : Int) HRr.out 1 (by decide) (by decide)).1
  have r2 := (Kd.R_cell (0 : Int) HRr.out 2 (by decide) (by decide)).1
  replace r0 : X5.cell? ⟨gg, 0, none⟩ = some (.int .i64 0) := r0
  replace r1 : X5.cell? ⟨gg, 1, none⟩ = some (.int .i64 4) := r1
  replace r2 : X5.cell? ⟨gg, 2, none⟩ = some (.int .i64 0) := r2
  go_wp2_with fail
  refine (alive_calls _).mono ?_
  rintro e X7 ⟨rfl, hb⟩
  replace HB := Lib.hid (below_step HB.out hb)
  clear hb r0 r1 r2
  go_wp2
  go_ret
  exact ⟨rfl, HB.out⟩
end Go.Proofs.Ytloibbfihkfeeaa
