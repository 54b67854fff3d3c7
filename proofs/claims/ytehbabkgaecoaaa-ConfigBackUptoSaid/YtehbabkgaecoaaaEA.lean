/- What the statements' 'alive' answers. -/
import Derived.Test.YtehbabkgaecoaaaPl
import Derived.Test.YtehbabkgaecoaaaTurn
namespace Go.Proofs.Ytehbabkgaecoaaa
set_option linter.unusedVariables false
set_option linter.unusedSimpArgs false
open Go.RowKit Go.Shelf Go.Proofs.YtehbabkgaecoaaaW.PrintWords Go.Proofs.YtehbabkgaecoaaaW.PrintLast

theorem str8 : strOfNums [82, 79, 84, 65, 0, 0, 0, 4] = ⟨#[82, 79, 84, 65, 0, 0, 0, 4]⟩ := by decide +kernel
set_option maxRecDepth 100000 in
set_option maxHeartbeats 16000000 in
theorem alive_calls (w : World) : Calls Try.prog 30 #[] w fun e w' => e = .returned (.bool true) ∧ Below w.heap.size w w' := by
  go_enter Try.func30, Try.ntmps30
  go_wp2_with fail
  refine (plain_calls _).mono ?_
  rintro e W1 ⟨A1, A9, c1, c9, rfl, hin, hb⟩
  have hba : Below W1.heap.size W1 (W1.alloc (Obj.cells #[.int .i64 4, .slice A1 4 c1, .int .i64 10, .int .i64 2, .int .i64 60, .int .i64 60, .int .i64 1, .int .i64 1, .slice none 0 0, .slice A9 4 c9, .slice none 0 0, .slice none 0 0] 29)) := (Below.refl _ _).alloc (Nat.le_refl _) _
  have HB := Lib.hid (below_step hb hba)
  have HIN := Lib.hid (hin.below hba)
  have H2 := Lib.hid (blk_new W1 (Obj.cells #[.int .i64 4, .slice A1 4 c1, .int .i64 10, .int .i64 2, .int .i64 60, .int .i64 60, .int .i64 1, .int .i64 1, .slice none 0 0, .slice A9 4 c9, .slice none 0 0, .slice none 0 0] 29))
  clear hb hin hba
  go_wp2_with fail
  generalize hW0 : W1.alloc (Obj.cells #[.int .i64 4, .slice A1 4 c1, .int .i64 10, .int .i64 2, .int .i64 60, .int .i64 60, .int .i64 1, .int .i64 1, .slice none 0 0, .slice A9 4 c9, .slice none 0 0, .slice none 0 0] 29) = V0 at *
  generalize W1.heap.size = cb at *
  clear hW0
  refine (encode_calls A1 none A9 none none c1 0 c9 0 0 C0 _ HIN.out (by rw [plain_num]; omega)).mono ?_
  rintro e W0 ⟨v, rfl, hr, hb⟩
  rw [plain_enc.1]
  obtain ⟨Av, cv, rfl, hcv, hC⟩ := Kd.R_reads hr
  rw [plain_enc.2.1] at hC hcv ⊢
  have HC8 := Lib.hid (show Kd.C kU W0 Av 8 [82, 79, 84, 65, 0, 0, 0, 4] by
    have := Kd.C_take (k := kU) (A := Av) (w := W0) (xs := (encS C0).1) (m := 8) (by rw [plain_enc.2.1]; exact hC) (by rw [plain_enc.2.1]; omega)
    rw [plain_enc.2.2] at this
    exact this)
  have H0 := Lib.hid (blk_keep hb H2.out)
  replace HIN := Lib.hid (HIN.out.below hb)
  replace HB := Lib.hid (below_step HB.out hb)
  clear hr hb hC H2
  obtain ⟨k0, k1, k2, k3, k4, k5, k6, k7, k8, k9, k10, k11⟩ := cfg_cells H0.out
  go_wp2_with fail
  refine (check_calls A1 none A9 none none c1 0 c9 0 0 C0 _ HIN.out).mono ?_
  rintro e u ⟨rfl, hb⟩
  rw [plain_check]
  clear k0 k1 k2 k3 k4 k5 k6 k7 k8 k9 k10 k11
  replace HC8 := Lib.hid (Kd.C_below HC8.out hb)
  replace H0 := Lib.hid (blk_keep hb H0.out)
  replace HIN := Lib.hid (HIN.out.below hb)
  replace HB := Lib.hid (below_step HB.out hb)
  clear hb
  obtain ⟨k0, k1, k2, k3, k4, k5, k6, k7, k8, k9, k10, k11⟩ := cfg_cells H0.out
  go_wp2_with fail
  refine (prec_calls A1 none A9 none none c1 0 c9 0 0 C0 _).mono ?_
  rintro e u ⟨rfl, hb⟩
  rw [plain_prec]
  clear k0 k1 k2 k3 k4 k5 k6 k7 k8 k9 k10 k11
  replace HC8 := Lib.hid (Kd.C_below HC8.out hb)
  replace H0 := Lib.hid (blk_keep hb H0.out)
  replace HIN := Lib.hid (HIN.out.below hb)
  replace HB := Lib.hid (below_step HB.out hb)
  clear hb
  obtain ⟨k0, k1, k2, k3, k4, k5, k6, k7, k8, k9, k10, k11⟩ := cfg_cells H0.out
  go_wp2_with fail
  refine (owner_calls A1 none A9 none none c1 0 c9 0 0 C0 5 _ HIN.out).mono ?_
  rintro e u ⟨rfl, hb⟩
  rw [plain_owner]
  clear k0 k1 k2 k3 k4 k5 k6 k7 k8 k9 k10 k11
  replace HC8 := Lib.hid (Kd.C_below HC8.out hb)
  replace H0 := Lib.hid (blk_keep hb H0.out)
  replace HIN := Lib.hid (HIN.out.below hb)
  replace HB := Lib.hid (below_step HB.out hb)
  clear hb
  obtain ⟨k0, k1, k2, k3, k4, k5, k6, k7, k8, k9, k10, k11⟩ := cfg_cells H0.out
  go_wp2_with fail
  refine (turn_calls A1 none A9 none none c1 0 c9 0 0 C0 1 _ HIN.out).mono ?_
  rintro e u ⟨rfl, hb⟩
  rw [plain_turn]
  clear k0 k1 k2 k3 k4 k5 k6 k7 k8 k9 k10 k11
  replace HC8 := Lib.hid (Kd.C_below HC8.out hb)
  replace H0 := Lib.hid (blk_keep hb H0.out)
  replace HIN := Lib.hid (HIN.out.below hb)
  replace HB := Lib.hid (below_step HB.out hb)
  clear hb
  obtain ⟨k0, k1, k2, k3, k4, k5, k6, k7, k8, k9, k10, k11⟩ := cfg_cells H0.out
  have s0 := Kd.C_string (c := cv) Try.underlying22 Try.underlying5 Try.underlying9 HC8.out
  rw [str8] at s0
  clear k0 k1 k2 k3 k4 k5 k6 k7 k8 k9 k10 k11
  go_wp2
  go_ret
  exact ⟨rfl, HB.out⟩
end Go.Proofs.Ytehbabkgaecoaaa
