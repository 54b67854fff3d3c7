/- What config's part answers. -/
import Derived.Test.YtehbabkgaecoaaaCkH
namespace Go.Proofs.Ytehbabkgaecoaaa
set_option linter.unusedVariables false
set_option linter.unusedSimpArgs false
open Go.RowKit Go.Shelf Go.Proofs.YtehbabkgaecoaaaW.PrintWords

/-- A port's partition, by its number, if there is such. -/
def partW (C : S29) (n : Int) : Int × Bool := if 0 ≤ n then (match C.f10[n.toNat]? with | some p => (p.f0, withinB p.f0 0 ((C.f8.length : Int) - 1)) | none => (0, false)) else (0, false)
theorem within_same (n lo hi : Int) (w : World) : Calls Try.prog 74 #[.int .i64 n, .int .i64 lo, .int .i64 hi] w fun e w' => e = .returned (.bool (withinB n lo hi)) ∧ w' = w := (within_calls n lo hi w).mono fun _ _ ⟨a, b⟩ => ⟨a, b.symm⟩
set_option maxHeartbeats 4000000 in
theorem part_calls (A1 A8 A9 A10 A11 : Option Addr) (c1 c8 c9 c10 c11 : Nat) (C : S29) (w : World) (h : CfgIn w C A1 A8 A9 A10 A11 c1 c8 c9 c10 c11) (n : Int) : Calls Try.prog 58 #[.agg #[.int .i64 C.f0, .slice A1 C.f1.length c1, .int .i64 C.f2, .int .i64 C.f3, .int .i64 C.f4, .int .i64 C.f5, .int .i64 C.f6, .int .i64 C.f7, .slice A8 C.f8.length c8, .slice A9 C.f9.length c9, .slice A10 C.f10.length c10, .slice A11 C.f11.length c11], .int .i64 n] w fun e w' => e = .returned (.tuple #[.int .i64 (partW C n).1, .bool (partW C n).2]) ∧ Below w.heap.size w w' := by
  obtain ⟨l1, l8, l9, l10, l11⟩ := h.len
  have HR := Lib.hid h
  have HB := Lib.hid (show Below w.heap.size w (w.alloc (Obj.cells #[.int .i64 C.f0, .slice A1 C.f1.length c1, .int .i64 C.f2, .int .i64 C.f3, .int .i64 C.f4, .int .i64 C.f5, .int .i64 C.f6, .int .i64 C.f7, .slice A8 C.f8.length c8, .slice A9 C.f9.length c9, .slice A10 C.f10.length c10, .slice A11 C.f11.length c11] 29)) from (Below.refl _ _).alloc (Nat.le_refl _) _)
  have H0 := Lib.hid (blk_new w (o := (Obj.cells #[.int .i64 C.f0, .slice A1 C.f1.length c1, .int .i64 C.f2, .int .i64 C.f3, .int .i64 C.f4, .int .i64 C.f5, .int .i64 C.f6, .int .i64 C.f7, .slice A8 C.f8.length c8, .slice A9 C.f9.length c9, .slice A10 C.f10.length c10, .slice A11 C.f11.length c11] 29)))
  clear h
  obtain ⟨k0, k1, k2, k3, k4, k5, k6, k7, k8, k9, k10, k11⟩ := cfg_cells H0.out
  by_cases hn : 0 ≤ n ∧ n < C.f10.length
  · obtain ⟨n, rfl⟩ : ∃ m : Nat, n = (m : Int) := ⟨n.toNat, by omega⟩
    obtain ⟨p, hp⟩ : ∃ p, C.f10[n]? = some p := ⟨C.f10[n]'(by omega), List.getElem?_eq_getElem (by omega)⟩
    have he : partW C (n : Int) = (p.f0, withinB p.f0 0 ((C.f8.length : Int) - 1)) := by
      unfold partW; rw [if_pos (by omega), Int.toNat_natCast, hp]
    rw [he]
    have HP := Lib.hid hp
    clear he hp
    go_enter Try.func58, Try.ntmps58
    go_wp2_with fail
    refine (port_some _ _ _ _ _ _ _ _ _ _ C _ (HR.out.below HB.out) n p HP.out).mono ?_
    rintro e W1 ⟨rfl, hb⟩
    clear k0 k1 k2 k3 k4 k5 k6 k7 k8 k9 k10 k11
    have hba : Below W1.heap.size W1 (W1.alloc (Obj.cells #[.int .i64 p.f0, .int .i64 p.f1, .int .i64 p.f2, .int .i64 p.f3, .int .i64 p.f4, .int .i64 p.f5] 59)) := (Below.refl _ _).alloc (Nat.le_refl _) _
    have H1 := Lib.hid (blk_keep hba (blk_keep hb H0.out))
    have H2 := Lib.hid (blk_new W1 (Obj.cells #[.int .i64 p.f0, .int .i64 p.f1, .int .i64 p.f2, .int .i64 p.f3, .int .i64 p.f4, .int .i64 p.f5] 59))
    have HB1 := Lib.hid (below_step (below_step HB.out hb) hba)
    clear hba hb
    obtain ⟨k0, k1, k2, k3, k4, k5, k6, k7, k8, k9, k10, k11⟩ := cfg_cells H1.out
    have q0 := blk_cell H2.out 0
    go_wp2_with fail
    have e1 : IntKind.i64.wrap ((C.f8.length : Int) - 1) = (C.f8.length : Int) - 1 := IntWalk.i64_in _ ⟨by omega, by omega⟩
    go_quiet ((go_at_call 74; exact Calls.quiet_of_same (within_same p.f0 0 ((C.f8.length : Int) - 1) _)))
    go_wp2_with fail
    go_ret2
    exact ⟨rfl, pw_below_drewN HB1.out _⟩
  · have he : partW C n = (0, false) := by
      unfold partW
      by_cases h0 : 0 ≤ n
      · rw [if_pos h0, List.getElem?_eq_none (by omega)]
      · rw [if_neg h0]
    rw [he]
    clear he
    have HN := Lib.hid hn
    clear hn
    go_enter Try.func58, Try.ntmps58
    go_wp2_with fail
    refine (port_none _ _ _ _ _ _ _ _ _ _ C _ (HR.out.below HB.out) n HN.out).mono ?_
    rintro e W1 ⟨rfl, hb⟩
    clear k0 k1 k2 k3 k4 k5 k6 k7 k8 k9 k10 k11
    have hba : Below W1.heap.size W1 (W1.alloc (Obj.cells #[.int .i64 0, .int .i64 0, .int .i64 0, .int .i64 0, .int .i64 0, .int .i64 0] 59)) := (Below.refl _ _).alloc (Nat.le_refl _) _
    have H2 := Lib.hid (blk_new W1 (Obj.cells #[.int .i64 0, .int .i64 0, .int .i64 0, .int .i64 0, .int .i64 0, .int .i64 0] 59))
    have HB1 := Lib.hid (below_step (below_step HB.out hb) hba)
    clear hba hb
    have q0 := blk_cell H2.out 0
    go_wp2_with fail
    go_quiet (fail)
    go_wp2_with fail
    go_ret2
    exact ⟨rfl, pw_below_drewN HB1.out _⟩
end Go.Proofs.Ytehbabkgaecoaaa
