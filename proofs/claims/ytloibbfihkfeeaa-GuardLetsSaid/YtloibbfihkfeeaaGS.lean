/- The walk of GuardShifted. -/
import Derived.Test.YtloibbfihkfeeaaGSp
import Derived.Test.YtloibbfihkfeeaaGJ
import Derived.Test.YtloibbfihkfeeaaGreat
namespace Go.Proofs.Ytloibbfihkfeeaa
set_option linter.unusedVariables false
set_option linter.unusedSimpArgs false
open Go.RowKit Go.Shelf Go.Proofs.YtloibbfihkfeeaaW.PrintWords Go.Proofs.YtloibbfihkfeeaaW.PrintLast

set_option maxRecDepth 100000 in
set_option maxHeartbeats 8000000 in
theorem shifted_calls (A1 A8 A9 A10 A11 : Option Addr) (c1 c8 c9 c10 c11 : Nat) (C : S28) (w : World) (h : CfgIn w C A1 A8 A9 A10 A11 c1 c8 c9 c10 c11) (length offset : Int) (hk1 : I64 length) (hk2 : I64 offset) (A : Option Addr) (c : Nat) (l : List Sh) (hr : Kd.C k32 w A l.length l) (hc : l.length ≤ c) :
    Calls Try.prog 6 #[.agg #[.int .i64 C.f0, .slice A1 C.f1.length c1, .int .i64 C.f2, .int .i64 C.f3, .int .i64 C.f4, .int .i64 C.f5, .int .i64 C.f6, .int .i64 C.f7, .slice A8 C.f8.length c8, .slice A9 C.f9.length c9, .slice A10 C.f10.length c10, .slice A11 C.f11.length c11], .agg #[.int .i64 length, .int .i64 offset], .slice A l.length c] w fun e w' => e = .returned (.bool true) ∧ Below w.heap.size w w' := by
  have HR := Lib.hid h
  have HL := Lib.hid hr
  have HB := Lib.hid (show Below w.heap.size w ((w.alloc (Obj.cells #[.int .i64 C.f0, .slice A1 C.f1.length c1, .int .i64 C.f2, .int .i64 C.f3, .int .i64 C.f4, .int .i64 C.f5, .int .i64 C.f6, .int .i64 C.f7, .slice A8 C.f8.length c8, .slice A9 C.f9.length c9, .slice A10 C.f10.length c10, .slice A11 C.f11.length c11] 28)).alloc (Obj.cells #[.int .i64 length, .int .i64 offset] 30)) from ((Below.refl _ _).alloc (Nat.le_refl _) _).alloc (by simp) _)
  have HC := Lib.hid (blk_alloc (blk_new w (Obj.cells #[.int .i64 C.f0, .slice A1 C.f1.length c1, .int .i64 C.f2, .int .i64 C.f3, .int .i64 C.f4, .int .i64 C.f5, .int .i64 C.f6, .int .i64 C.f7, .slice A8 C.f8.length c8, .slice A9 C.f9.length c9, .slice A10 C.f10.length c10, .slice A11 C.f11.length c11] 28)) (Obj.cells #[.int .i64 length, .int .i64 offset] 30))
  have HK := Lib.hid (show ((w.alloc (Obj.cells #[.int .i64 C.f0, .slice A1 C.f1.length c1, .int .i64 C.f2, .int .i64 C.f3, .int .i64 C.f4, .int .i64 C.f5, .int .i64 C.f6, .int .i64 C.f7, .slice A8 C.f8.length c8, .slice A9 C.f9.length c9, .slice A10 C.f10.length c10, .slice A11 C.f11.length c11] 28)).alloc (Obj.cells #[.int .i64 length, .int .i64 offset] 30)).heap[w.heap.size + 1]? = some (Obj.cells #[.int .i64 length, .int .i64 offset] 30) from blk_new_at _ _ (by simp))
  have HK1 := Lib.hid hk1
  clear h hr hk1 hk2
  go_enter Try.func6, Try.ntmps6
  go_wp2_with fail
  refine (alive_calls _).mono ?_
  rintro e W1 ⟨rfl, hb⟩
  replace HC := Lib.hid (blk_keep hb HC.out)
  replace HK := Lib.hid (blk_keep hb HK.out)
  replace HB := Lib.hid (below_step HB.out hb)
  clear hb
  obtain ⟨g0, g1, g2, g3, g4, g5, g6, g7, g8, g9, g10, g11⟩ := cfg_cells HC.out
  obtain ⟨gr, hgr⟩ : ∃ gr, gr = greatB C := ⟨_, rfl⟩
  have HG := Lib.hid hgr
  clear hgr
  go_wp2_with fail
  refine (great_calls _ _ _ _ _ _ _ _ _ _ C _ (HR.out.below HB.out)).mono ?_
  rintro e W2 ⟨rfl, hb⟩
  rw [← HG.out]
  clear g0 g1 g2 g3 g4 g5 g6 g7 g8 g9 g10 g11
  replace HC := Lib.hid (blk_keep hb HC.out)
  replace HK := Lib.hid (blk_keep hb HK.out)
  replace HB := Lib.hid (below_step HB.out hb)
  clear hb
  cases gr
  case true =>
    go_wp2
    go_ret
    exact ⟨rfl, HB.out⟩
  by_cases h60 : l.length ≤ 60
  case neg =>
    have e60 : decide (60 < (l.length : Int)) = true := decide_eq_true (by omega)
    go_wp2
    go_ret
    exact ⟨rfl, HB.out⟩
  have e60 : decide (60 < (l.length : Int)) = false := decide_eq_false (by omega)
  have k0 := blk_cell HK.out 0
  have k1 := blk_cell HK.out 1
  have hltK := blk_lt HK.out
  by_cases o1 : offset < -1000000
  · go_wp2
    go_ret
    exact ⟨rfl, HB.out⟩
  by_cases o2 : 1000000 < offset
  · go_wp2
    go_ret
    exact ⟨rfl, HB.out⟩
  obtain ⟨b, hb⟩ : ∃ b, b = length.tmod 1000 := ⟨_, rfl⟩
  have hb1 : -1000 < b := by rw [hb]; have := Int.lt_tmod_of_pos length (b := 1000) (by omega); omega
  have hb2 : b < 1000 := by rw [hb]; exact Int.tmod_lt_of_pos length (by omega)
  have hwb : IntKind.i64.wrap (length.tmod 1000) = length.tmod 1000 := IntWalk.i64_in _ (by omega)
  go_wp2
  rw [← hb]
  have HBB := Lib.hid hb
  clear hb hwb k0 k1 hltK
  go_loopw [9, 43] (fun v0 i wr => ∃ (k : Nat) (v : Value), k ≤ l.length ∧ i = .int .i64 k ∧ v = v0 ∧ Hid ((l.take k).all near = true) ∧ Hid (Kd.R k32 32 wr w.heap.size (fun _ => True) v ((l.take k).map (shf b))) ∧ Hid (Below w.heap.size w wr) ∧ Hid (wr.heap[w.heap.size]? = some (Obj.cells #[.int .i64 C.f0, .slice A1 C.f1.length c1, .int .i64 C.f2, .int .i64 C.f3, .int .i64 C.f4, .int .i64 C.f5, .int .i64 C.f6, .int .i64 C.f7, .slice A8 C.f8.length c8, .slice A9 C.f9.length c9, .slice A10 C.f10.length c10, .slice A11 C.f11.length c11] 28)) ∧ Hid (wr.heap[w.heap.size + 1]? = some (Obj.cells #[.int .i64 length, .int .i64 offset] 30))) (fun _ i _ => l.length - (intOf i).toNat)
  case atStart => exact ⟨0, _, by omega, rfl, rfl, Lib.hid (by simp), Lib.hid (Kd.R_nil _ _ _ _ _), HB, HC, HK⟩
  case round =>
    clear HB HC HK
    obtain ⟨k, v, hk, rfl, rfl, HA, HO, HB, HC, HK⟩ := hrel
    by_cases hlt : k < l.length
    · obtain ⟨ad, p, e1, p0, p1, p2, HX⟩ := at_S (Kd.C_below HL.out HB.out) k hlt
      subst e1
      by_cases n1 : p.f1 < -576460752303423488
      · go_wp2
        go_ret
        exact ⟨rfl, HB.out⟩
      by_cases n2 : 576460752303423488 < p.f1
      · go_wp2
        go_ret
        exact ⟨rfl, HB.out⟩
      by_cases n3 : p.f2 < -576460752303423488
      · go_wp2
        go_ret
        exact ⟨rfl, HB.out⟩
      by_cases n4 : 576460752303423488 < p.f2
      · go_wp2
        go_ret
        exact ⟨rfl, HB.out⟩
      have HN := Lib.hid (all_take_succ HX.out HA.out (show near p = true by simp only [near, Bool.and_eq_true, decide_eq_true_eq]; omega))
      have w1 : IntKind.i64.wrap (p.f1 - b) = p.f1 - b := IntWalk.i64_in _ (by omega)
      have w2 : IntKind.i64.wrap (p.f2 - b) = p.f2 - b := IntWalk.i64_in _ (by omega)
      go_wp2
      refine region_flat (S := Bw wr) (N := 24) (σ := Nat × Value) (ds := [22, 23]) (fun z => [(77, v), (78, .slice (some ad) l.length c), (79, .int .i64 k), (80, .pointer (some (ad.add (k * 3)))), (81, .pointer (some (ad.add (k * 3)))), (82, .int .i64 p.f0), (83, .slice (some ad) l.length c), (84, .int .i64 k), (85, .pointer (some (ad.add (k * 3)))), (86, .pointer (some ⟨(ad.add (k * 3)).block, (ad.add (k * 3)).off + 1, none⟩)), (87, .int .i64 p.f1), (88, .int .i64 b), (89, .int .i64 (p.f1 - b)), (90, .slice (some ad) l.length c), (91, .int .i64 k), (92, .pointer (some (ad.add (k * 3)))), (93, .pointer (some ⟨(ad.add (k * 3)).block, (ad.add (k * 3)).off + 2, none⟩)), (94, .int .i64 p.f2), (95, .int .i64 b), (96, .int .i64 (p.f2 - b)), (97, .agg #[.int .i64 p.f0, .int .i64 (p.f1 - b), .int .i64 (p.f2 - b)]), (98, .slice (some ⟨z.1, 0, none⟩) 1 1), (99, z.2), (9, z.2)]) (fun z w' => Kd.R k32 32 w' w.heap.size (fun _ => True) z.2 ((l.take k).map (shf b) ++ [shf b p]) ∧ Below w.heap.size w w' ∧ w'.heap[w.heap.size]? = some (Obj.cells #[.int .i64 C.f0, .slice A1 C.f1.length c1, .int .i64 C.f2, .int .i64 C.f3, .int .i64 C.f4, .int .i64 C.f5, .int .i64 C.f6, .int .i64 C.f7, .slice A8 C.f8.length c8, .slice A9 C.f9.length c9, .slice A10 C.f10.length c10, .slice A11 C.f11.length c11] 28) ∧ w'.heap[w.heap.size + 1]? = some (Obj.cells #[.int .i64 length, .int .i64 offset] 30)) #[false, false, false, false, false, false, false, false, false, false, false, false, false, false, false, false, false, false, false, false, false, false, false, false] (Bw.drew0 wr) (by kernel_rfl) rfl rfl ?_ ?_
      · have hS := Bw.drew0 wr
        generalize wr.drew = Wd at hS ⊢
        refine pure_ (i := 0) (N := some 77) (v := ?_) (a' := ?_) #[true, false, false, false, false, false, false, false, false, false, false, false, false, false, false, false, false, false, false, false, false, false, false, false] rfl rfl (by kernel_rfl) (fun _ _ _ h => by cases h.1) (Or.inl ⟨by rfl, ?_⟩) ?_ ?_
        rotate_left
        · intro w'
          go_simp
          with_reducible rfl
        rotate_left
        · simp only [Act.put, List.setIfInBounds_toArray, List.set_cons_zero, List.set_cons_succ]
          rfl
        refine pure_ (i := 1) (N := some 78) (v := ?_) (a' := ?_) #[true, true, false, false, false, false, false, false, false, false, false, false, false, false, false, false, false, false, false, false, false, false, false, false] rfl rfl (by kernel_rfl) (fun _ _ _ h => by cases h.1) (Or.inl ⟨by rfl, ?_⟩) ?_ ?_
        rotate_left
        · intro w'
          go_simp
          with_reducible rfl
        rotate_left
        · simp only [Act.put, List.setIfInBounds_toArray, List.set_cons_zero, List.set_cons_succ]
          rfl
        refine pure_ (i := 2) (N := some 79) (v := ?_) (a' := ?_) #[true, true, true, false, false, false, false, false, false, false, false, false, false, false, false, false, false, false, false, false, false, false, false, false] rfl rfl (by kernel_rfl) (fun _ _ _ h => by cases h.1) (Or.inl ⟨by rfl, ?_⟩) ?_ ?_
        rotate_left
        · intro w'
          go_simp
          with_reducible rfl
        rotate_left
        · simp only [Act.put, List.setIfInBounds_toArray, List.set_cons_zero, List.set_cons_succ]
          rfl
        refine pure_ (i := 3) (N := some 80) (v := ?_) (a' := ?_) #[true, true, true, true, false, false, false, false, false, false, false, false, false, false, false, false, false, false, false, false, false, false, false, false] rfl rfl (by kernel_rfl) (fun _ _ _ h => by cases h.1) (Or.inl ⟨by rfl, ?_⟩) ?_ ?_
        rotate_left
        · intro w'
          go_simp
          with_reducible rfl
        rotate_left
        · simp only [Act.put, List.setIfInBounds_toArray, List.set_cons_zero, List.set_cons_succ]
          rfl
        refine pure_ (i := 4) (N := some 81) (v := ?_) (a' := ?_) #[true, true, true, true, true, false, false, false, false, false, false, false, false, false, false, false, false, false, false, false, false, false, false, false] rfl rfl (by kernel_rfl) (fun _ _ _ h => by cases h.1) (Or.inl ⟨by rfl, ?_⟩) ?_ ?_
        rotate_left
        · intro w'
          go_simp
          with_reducible rfl
        rotate_left
        · simp only [Act.put, List.setIfInBounds_toArray, List.set_cons_zero, List.set_cons_succ]
          rfl
        refine take_ (i := 5) (N := some 82) (v := ?_) (a' := ?_) #[true, true, true, true, true, true, false, false, false, false, false, false, false, false, false, false, false, false, false, false, false, false, false, false] rfl rfl (by kernel_rfl) (fun _ _ _ h => by cases h.1) (Or.inl ⟨by rfl, ?_⟩) hS ?_ ?_
        rotate_left
        · intro w' hb
          have s0 := hb.cell p0
          go_simp
          with_reducible rfl
        rotate_left
        · simp only [Act.put, List.setIfInBounds_toArray, List.set_cons_zero, List.set_cons_succ]
          rfl
        refine pure_ (i := 6) (N := some 83) (v := ?_) (a' := ?_) #[true, true, true, true, true, true, true, false, false, false, false, false, false, false, false, false, false, false, false, false, false, false, false, false] rfl rfl (by kernel_rfl) (fun _ _ _ h => by cases h.1) (Or.inl ⟨by rfl, ?_⟩) ?_ ?_
        rotate_left
        · intro w'
          go_simp
          with_reducible rfl
        rotate_left
        · simp only [Act.put, List.setIfInBounds_toArray, List.set_cons_zero, List.set_cons_succ]
          rfl
        refine pure_ (i := 7) (N := some 84) (v := ?_) (a' := ?_) #[true, true, true, true, true, true, true, true, false, false, false, false, false, false, false, false, false, false, false, false, false, false, false, false] rfl rfl (by kernel_rfl) (fun _ _ _ h => by cases h.1) (Or.inl ⟨by rfl, ?_⟩) ?_ ?_
        rotate_left
        · intro w'
          go_simp
          with_reducible rfl
        rotate_left
        · simp only [Act.put, List.setIfInBounds_toArray, List.set_cons_zero, List.set_cons_succ]
          rfl
        refine pure_ (i := 8) (N := some 85) (v := ?_) (a' := ?_) #[true, true, true, true, true, true, true, true, true, false, false, false, false, false, false, false, false, false, false, false, false, false, false, false] rfl rfl (by kernel_rfl) (fun _ _ _ h => by cases h.1) (Or.inl ⟨by rfl, ?_⟩) ?_ ?_
        rotate_left
        · intro w'
          go_simp
          with_reducible rfl
        rotate_left
        · simp only [Act.put, List.setIfInBounds_toArray, List.set_cons_zero, List.set_cons_succ]
          rfl
        refine pure_ (i := 9) (N := some 86) (v := ?_) (a' := ?_) #[true, true, true, true, true, true, true, true, true, true, false, false, false, false, false, false, false, false, false, false, false, false, false, false] rfl rfl (by kernel_rfl) (fun _ _ _ h => by cases h.1) (Or.inl ⟨by rfl, ?_⟩) ?_ ?_
        rotate_left
        · intro w'
          go_simp
          with_reducible rfl
        rotate_left
        · simp only [Act.put, List.setIfInBounds_toArray, List.set_cons_zero, List.set_cons_succ]
          rfl
        refine take_ (i := 10) (N := some 87) (v := ?_) (a' := ?_) #[true, true, true, true, true, true, true, true, true, true, true, false, false, false, false, false, false, false, false, false, false, false, false, false] rfl rfl (by kernel_rfl) (fun _ _ _ h => by cases h.1) (Or.inl ⟨by rfl, ?_⟩) hS ?_ ?_
        rotate_left
        · intro w' hb
          have s0 := hb.cell p1
          go_simp
          with_reducible rfl
        rotate_left
        · simp only [Act.put, List.setIfInBounds_toArray, List.set_cons_zero, List.set_cons_succ]
          rfl
        refine pure_ (i := 11) (N := some 88) (v := ?_) (a' := ?_) #[true, true, true, true, true, true, true, true, true, true, true, true, false, false, false, false, false, false, false, false, false, false, false, false] rfl rfl (by kernel_rfl) (fun _ _ _ h => by cases h.1) (Or.inl ⟨by rfl, ?_⟩) ?_ ?_
        rotate_left
        · intro w'
          go_simp
          with_reducible rfl
        rotate_left
        · simp only [Act.put, List.setIfInBounds_toArray, List.set_cons_zero, List.set_cons_succ]
          rfl
        refine pure_ (i := 12) (N := some 89) (v := ?_) (a' := ?_) #[true, true, true, true, true, true, true, true, true, true, true, true, true, false, false, false, false, false, false, false, false, false, false, false] rfl rfl (by kernel_rfl) (fun _ _ _ h => by cases h.1) (Or.inl ⟨by rfl, ?_⟩) ?_ ?_
        rotate_left
        · intro w'
          go_simp
          with_reducible rfl
        rotate_left
        · simp only [Act.put, List.setIfInBounds_toArray, List.set_cons_zero, List.set_cons_succ]
          rfl
        refine pure_ (i := 13) (N := some 90) (v := ?_) (a' := ?_) #[true, true, true, true, true, true, true, true, true, true, true, true, true, true, false, false, false, false, false, false, false, false, false, false] rfl rfl (by kernel_rfl) (fun _ _ _ h => by cases h.1) (Or.inl ⟨by rfl, ?_⟩) ?_ ?_
        rotate_left
        · intro w'
          go_simp
          with_reducible rfl
        rotate_left
        · simp only [Act.put, List.setIfInBounds_toArray, List.set_cons_zero, List.set_cons_succ]
          rfl
        refine pure_ (i := 14) (N := some 91) (v := ?_) (a' := ?_) #[true, true, true, true, true, true, true, true, true, true, true, true, true, true, true, false, false, false, false, false, false, false, false, false] rfl rfl (by kernel_rfl) (fun _ _ _ h => by cases h.1) (Or.inl ⟨by rfl, ?_⟩) ?_ ?_
        rotate_left
        · intro w'
          go_simp
          with_reducible rfl
        rotate_left
        · simp only [Act.put, List.setIfInBounds_toArray, List.set_cons_zero, List.set_cons_succ]
          rfl
        refine pure_ (i := 15) (N := some 92) (v := ?_) (a' := ?_) #[true, true, true, true, true, true, true, true, true, true, true, true, true, true, true, true, false, false, false, false, false, false, false, false] rfl rfl (by kernel_rfl) (fun _ _ _ h => by cases h.1) (Or.inl ⟨by rfl, ?_⟩) ?_ ?_
        rotate_left
        · intro w'
          go_simp
          with_reducible rfl
        rotate_left
        · simp only [Act.put, List.setIfInBounds_toArray, List.set_cons_zero, List.set_cons_succ]
          rfl
        refine pure_ (i := 16) (N := some 93) (v := ?_) (a' := ?_) #[true, true, true, true, true, true, true, true, true, true, true, true, true, true, true, true, true, false, false, false, false, false, false, false] rfl rfl (by kernel_rfl) (fun _ _ _ h => by cases h.1) (Or.inl ⟨by rfl, ?_⟩) ?_ ?_
        rotate_left
        · intro w'
          go_simp
          with_reducible rfl
        rotate_left
        · simp only [Act.put, List.setIfInBounds_toArray, List.set_cons_zero, List.set_cons_succ]
          rfl
        refine take_ (i := 17) (N := some 94) (v := ?_) (a' := ?_) #[true, true, true, true, true, true, true, true, true, true, true, true, true, true, true, true, true, true, false, false, false, false, false, false] rfl rfl (by kernel_rfl) (fun _ _ _ h => by cases h.1) (Or.inl ⟨by rfl, ?_⟩) hS ?_ ?_
        rotate_left
        · intro w' hb
          have s0 := hb.cell p2
          go_simp
          with_reducible rfl
        rotate_left
        · simp only [Act.put, List.setIfInBounds_toArray, List.set_cons_zero, List.set_cons_succ]
          rfl
        refine pure_ (i := 18) (N := some 95) (v := ?_) (a' := ?_) #[true, true, true, true, true, true, true, true, true, true, true, true, true, true, true, true, true, true, true, false, false, false, false, false] rfl rfl (by kernel_rfl) (fun _ _ _ h => by cases h.1) (Or.inl ⟨by rfl, ?_⟩) ?_ ?_
        rotate_left
        · intro w'
          go_simp
          with_reducible rfl
        rotate_left
        · simp only [Act.put, List.setIfInBounds_toArray, List.set_cons_zero, List.set_cons_succ]
          rfl
        refine pure_ (i := 19) (N := some 96) (v := ?_) (a' := ?_) #[true, true, true, true, true, true, true, true, true, true, true, true, true, true, true, true, true, true, true, true, false, false, false, false] rfl rfl (by kernel_rfl) (fun _ _ _ h => by cases h.1) (Or.inl ⟨by rfl, ?_⟩) ?_ ?_
        rotate_left
        · intro w'
          go_simp
          with_reducible rfl
        rotate_left
        · simp only [Act.put, List.setIfInBounds_toArray, List.set_cons_zero, List.set_cons_succ]
          rfl
        refine one_ (i := 20) (N := some 97) #[true, true, true, true, true, true, true, true, true, true, true, true, true, true, true, true, true, true, true, true, true, false, false, false] rfl rfl (by kernel_rfl) (by simp) (fun K hK => ?_)
        go_simp
        refine (shot_calls p.f0 (p.f1 - b) (p.f2 - b) _).mono ?_
        rintro e u1 ⟨rfl, hb⟩
        have hS1 : Bw wr u1 := Below.trans hS (hb.mono hS.size)
        refine hK.out _ _ hS1 (fun _ => ?_)
        clear hK K hb
        refine one_ (i := 21) (N := some 98) #[true, true, true, true, true, true, true, true, true, true, true, true, true, true, true, true, true, true, true, true, true, true, false, false] rfl rfl (by kernel_rfl) (by simp) (fun K hK => ?_)
        go_simp
        refine hK.out _ _ (Below.alloc hS1 hS1.size _) (fun _ => ?_)
        clear hK K
        refine last_ (i := 22) (N := some 99) #[true, true, true, true, true, true, true, true, true, true, true, true, true, true, true, true, true, true, true, true, true, true, true, false] rfl rfl (by kernel_rfl) (by simp) (fun K hK => ?_)
        have hO1 := Kd.R_below HO.out hS1
        have hB1 := below_step HB.out hS1
        refine Kd.R_append_step k32 (w0 := w) w.heap.size (by rfl) (.tmp 77) (.tmp 98) 45 32 (.agg #[.int .i64 0, .int .i64 0, .int .i64 0]) 24 rfl Try.underlying45 info32 rfl (by decide) (by omega) v ((l.take k).map (shf b)) (shf b p) [.int .i64 p.f0, .int .i64 (p.f1 - b), .int .i64 (p.f2 - b)] (fun _ => True) (fun _ => False) rfl rfl (k32_mkM _ _ _ (shf b p)) (fun _ hk => hk.elim) (fun _ _ => trivial) hO1 hB1 hB1.size (by rw [List.length_map, List.length_take]; omega) ?_
        intro v' w5 ho hbw hg hat
        refine hK.out _ _ ?_
        clear hK K
        refine norm_ (a' := ?_) ?_ ?_
        rotate_left
        · show Act.put _ (some 99) _ = _
          simp only [Act.put, List.setIfInBounds_toArray, List.set_cons_zero, List.set_cons_succ]
          rfl
        have hc5 := blk_grown (blk_keep hS1 HC.out) hg (Kd.R_ne hO1 (blk_keep hS1 HC.out) (by decide))
        have hk5 := blk_grown (blk_keep hS1 HK.out) hg (Kd.R_ne hO1 (blk_keep hS1 HK.out) (by decide))
        refine pure_ (i := 23) (N := some 9) (v := ?_) (a' := ?_) #[true, true, true, true, true, true, true, true, true, true, true, true, true, true, true, true, true, true, true, true, true, true, true, true] rfl rfl (by kernel_rfl) (fun _ _ _ h => by cases h.1) (Or.inl ⟨by rfl, ?_⟩) ?_ ?_
        rotate_left
        · intro w'
          go_simp
          with_reducible rfl
        rotate_left
        · simp only [Act.put, List.setIfInBounds_toArray, List.set_cons_zero, List.set_cons_succ]
          rfl
        refine done_ (by kernel_rfl) ?_
        exact ⟨rfl, (u1.heap.size, v'), by simp only [putAll, Act.put, List.setIfInBounds_toArray, List.set_cons_zero, List.set_cons_succ], ho, hbw, hc5, hk5⟩
      rintro ⟨b5, v'⟩ W5 ⟨hO5, hB5, hC5, hK5⟩
      simp only [putAll, Act.put, List.setIfInBounds_toArray, List.set_cons_zero, List.set_cons_succ]
      dsimp only at hO5
      have HO5 := Lib.hid hO5
      have HB5 := Lib.hid hB5
      have HC5 := Lib.hid hC5
      have HK5 := Lib.hid hK5
      clear hO5 hB5 hC5 hK5 p0 p1 p2 w1 w2
      go_wp2
      go_roundw
      case rel => exact ⟨k + 1, _, by omega, by go_num, rfl, HN, Lib.hid (by rw [List.take_add_one, HX.out, List.map_append]; exact HO5.out), HB5, HC5, HK5⟩
      case measure => simp [intOf]; omega
    · have hAll := Lib.hid (show l.all near = true by have := HA.out; rwa [List.take_of_length_le (by omega)] at this)
      have HM := Lib.hid (show Kd.R k32 32 wr w.heap.size (fun _ => True) v (l.map (shf b)) by have := HO.out; rwa [List.take_of_length_le (by omega)] at this)
      obtain ⟨m, hm⟩ : ∃ m, m = l.map (shf b) := ⟨_, rfl⟩
      rw [← hm] at HM
      have HMM := Lib.hid hm
      clear hm HO
      obtain ⟨Am, cm, rfl, -, hCm⟩ := Kd.R_reads HM.out
      have HCm := Lib.hid hCm
      clear hCm HM
      obtain ⟨g0, g1, g2, g3, g4, g5, g6, g7, g8, g9, g10, g11⟩ := cfg_cells HC.out
      have k0 := blk_cell HK.out 0
      have k1 := blk_cell HK.out 1
      obtain ⟨n, hn⟩ : ∃ n, n = mayW C length offset l := ⟨_, rfl⟩
      have HNN := Lib.hid hn
      clear hn
      obtain ⟨res, hres⟩ : ∃ res : List Int, res = (if mayW C length offset l = 0 then thr C length offset l l.length else []) := ⟨_, rfl⟩
      have HRS := Lib.hid hres
      clear hres
      go_wp2_with fail
      refine (through_calls _ _ _ _ _ _ _ _ _ _ C _ (HR.out.below HB.out) length offset A c l (Kd.C_below HL.out HB.out) (by omega)).mono ?_
      rintro e V1 ⟨v1, rfl, hR1, hb⟩
      rw [← HRS.out] at hR1
      rw [← HNN.out]
      obtain ⟨A1', d1, rfl, -, hC1⟩ := Kd.R_reads hR1
      have HC1 := Lib.hid hC1
      clear hR1 hC1 g0 g1 g2 g3 g4 g5 g6 g7 g8 g9 g10 g11 k0 k1
      replace HC := Lib.hid (blk_keep hb HC.out)
      replace HK := Lib.hid (blk_keep hb HK.out)
      replace HCm := Lib.hid (Kd.C_below HCm.out hb)
      replace HB := Lib.hid (below_step HB.out hb)
      clear hb
      obtain ⟨g0, g1, g2, g3, g4, g5, g6, g7, g8, g9, g10, g11⟩ := cfg_cells HC.out
      have k0 := blk_cell HK.out 0
      have k1 := blk_cell HK.out 1
      have w3 : IntKind.i64.wrap (offset + b) = offset + b := IntWalk.i64_in _ (by omega)
      go_wp2_with fail
      refine (through_calls _ _ _ _ _ _ _ _ _ _ C _ (HR.out.below HB.out) length (offset + b) Am cm m HCm.out (by rw [HMM.out, List.length_map]; omega)).mono ?_
      rintro e V2 ⟨v2, rfl, hR2, hb⟩
      rw [HMM.out, may_shf C length offset b l hb1 hb2 (by omega) (by omega) hAll.out, List.length_map, thr_shf, ← HRS.out] at hR2
      rw [HMM.out, may_shf C length offset b l hb1 hb2 (by omega) (by omega) hAll.out, ← HNN.out]
      obtain ⟨A2', d2, rfl, -, hC2⟩ := Kd.R_reads hR2
      have HC2 := Lib.hid hC2
      replace HC1 := Lib.hid (Kd.C_below HC1.out hb)
      replace HB := Lib.hid (below_step HB.out hb)
      clear hb hR2 hC2 g0 g1 g2 g3 g4 g5 g6 g7 g8 g9 g10 g11 k0 k1 w3
      go_wp2
      have hrl : res.length ≤ 60 := by
        rw [HRS.out]
        split
        · rw [thr_len]; exact h60
        · simp
      go_loopw [15, 135] (fun _ i wr => ∃ j : Nat, j ≤ res.length ∧ i = .int .i64 j ∧ Hid (Below V2.heap.size V2 wr)) (fun _ i _ => res.length - (intOf i).toNat)
      case atStart => exact ⟨0, by omega, rfl, Lib.hid (Below.refl _ _)⟩
      case round =>
        obtain ⟨j, hj, rfl, HB2⟩ := hrel
        by_cases hlj : j < res.length
        · obtain ⟨ad1, x, e1, q1, HV1⟩ := at_I (Kd.C_below HC1.out HB2.out) j hlj
          obtain ⟨ad2, x', e2, q2, HV2⟩ := at_I (Kd.C_below HC2.out HB2.out) j hlj
          obtain rfl : x = x' := by have := HV1.out.symm.trans HV2.out; injection this
          subst e1
          subst e2
          go_wp2
          refine region_flat (S := Bw wr) (N := 9) (σ := Unit) (ds := []) (fun _ => [(138, .slice (some ad1) res.length d1), (139, .int .i64 j), (140, .pointer (some (ad1.add j))), (141, .int .i64 x), (142, .slice (some ad2) res.length d2), (143, .int .i64 j), (144, .pointer (some (ad2.add j))), (145, .int .i64 x), (146, .bool false)]) (fun _ w' => Bw wr w') #[false, false, false, false, false, false, false, false, false] (Bw.drew0 wr) (by kernel_rfl) rfl rfl ?_ ?_
          · have hS := Bw.drew0 wr
            generalize wr.drew = Wd at hS ⊢
            refine pure_ (i := 0) (N := some 138) (v := ?_) (a' := ?_) #[true, false, false, false, false, false, false, false, false] rfl rfl (by kernel_rfl) (fun _ _ _ h => by cases h.1) (Or.inl ⟨by rfl, ?_⟩) ?_ ?_
            rotate_left
            · intro w'
              go_simp
              with_reducible rfl
            rotate_left
            · simp only [Act.put, List.setIfInBounds_toArray, List.set_cons_zero, List.set_cons_succ]
              rfl
            refine pure_ (i := 1) (N := some 139) (v := ?_) (a' := ?_) #[true, true, false, false, false, false, false, false, false] rfl rfl (by kernel_rfl) (fun _ _ _ h => by cases h.1) (Or.inl ⟨by rfl, ?_⟩) ?_ ?_
            rotate_left
            · intro w'
              go_simp
              with_reducible rfl
            rotate_left
            · simp only [Act.put, List.setIfInBounds_toArray, List.set_cons_zero, List.set_cons_succ]
              rfl
            refine pure_ (i := 2) (N := some 140) (v := ?_) (a' := ?_) #[true, true, true, false, false, false, false, false, false] rfl rfl (by kernel_rfl) (fun _ _ _ h => by cases h.1) (Or.inl ⟨by rfl, ?_⟩) ?_ ?_
            rotate_left
            · intro w'
              go_simp
              with_reducible rfl
            rotate_left
            · simp only [Act.put, List.setIfInBounds_toArray, List.set_cons_zero, List.set_cons_succ]
              rfl
            refine take_ (i := 3) (N := some 141) (v := ?_) (a' := ?_) #[true, true, true, true, false, false, false, false, false] rfl rfl (by kernel_rfl) (fun _ _ _ h => by cases h.1) (Or.inl ⟨by rfl, ?_⟩) hS ?_ ?_
            rotate_left
            · intro w' hb
              have s0 := hb.cell q1
              go_simp
              with_reducible rfl
            rotate_left
            · simp only [Act.put, List.setIfInBounds_toArray, List.set_cons_zero, List.set_cons_succ]
              rfl
            refine pure_ (i := 4) (N := some 142) (v := ?_) (a' := ?_) #[true, true, true, true, true, false, false, false, false] rfl rfl (by kernel_rfl) (fun _ _ _ h => by cases h.1) (Or.inl ⟨by rfl, ?_⟩) ?_ ?_
            rotate_left
            · intro w'
              go_simp
              with_reducible rfl
            rotate_left
            · simp only [Act.put, List.setIfInBounds_toArray, List.set_cons_zero, List.set_cons_succ]
              rfl
            refine pure_ (i := 5) (N := some 143) (v := ?_) (a' := ?_) #[true, true, true, true, true, true, false, false, false] rfl rfl (by kernel_rfl) (fun _ _ _ h => by cases h.1) (Or.inl ⟨by rfl, ?_⟩) ?_ ?_
            rotate_left
            · intro w'
              go_simp
              with_reducible rfl
            rotate_left
            · simp only [Act.put, List.setIfInBounds_toArray, List.set_cons_zero, List.set_cons_succ]
              rfl
            refine pure_ (i := 6) (N := some 144) (v := ?_) (a' := ?_) #[true, true, true, true, true, true, true, false, false] rfl rfl (by kernel_rfl) (fun _ _ _ h => by cases h.1) (Or.inl ⟨by rfl, ?_⟩) ?_ ?_
            rotate_left
            · intro w'
              go_simp
              with_reducible rfl
            rotate_left
            · simp only [Act.put, List.setIfInBounds_toArray, List.set_cons_zero, List.set_cons_succ]
              rfl
            refine take_ (i := 7) (N := some 145) (v := ?_) (a' := ?_) #[true, true, true, true, true, true, true, true, false] rfl rfl (by kernel_rfl) (fun _ _ _ h => by cases h.1) (Or.inl ⟨by rfl, ?_⟩) hS ?_ ?_
            rotate_left
            · intro w' hb
              have s0 := hb.cell q2
              go_simp
              with_reducible rfl
            rotate_left
            · simp only [Act.put, List.setIfInBounds_toArray, List.set_cons_zero, List.set_cons_succ]
              rfl
            refine pure_ (i := 8) (N := some 146) (v := ?_) (a' := ?_) #[true, true, true, true, true, true, true, true, true] rfl rfl (by kernel_rfl) (fun _ _ _ h => by cases h.1) (Or.inl ⟨by rfl, ?_⟩) ?_ ?_
            rotate_left
            · intro w'
              go_simp
              with_reducible rfl
            rotate_left
            · simp only [Act.put, List.setIfInBounds_toArray, List.set_cons_zero, List.set_cons_succ]
              rfl
            refine done_ (by kernel_rfl) ?_
            exact ⟨rfl, (), by simp only [putAll, Act.put, List.setIfInBounds_toArray, List.set_cons_zero, List.set_cons_succ], hS⟩
          rintro - W9 hb
          simp only [putAll, Act.put, List.setIfInBounds_toArray, List.set_cons_zero, List.set_cons_succ]
          have HB3 := Lib.hid (below_step HB2.out hb)
          clear hb q1 q2
          go_wp2
          go_roundw
          case rel => exact ⟨j + 1, by omega, by go_num, HB3⟩
          case measure => simp [intOf]; omega
        · go_wp2
          go_ret
          exact ⟨rfl, below_step HB.out HB2.out⟩
end Go.Proofs.Ytloibbfihkfeeaa
