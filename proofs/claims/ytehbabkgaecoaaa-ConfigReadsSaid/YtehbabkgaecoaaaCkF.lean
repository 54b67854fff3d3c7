/- What config's port answers. -/
import Derived.Test.YtehbabkgaecoaaaCkE
namespace Go.Proofs.Ytehbabkgaecoaaa
set_option linter.unusedVariables false
set_option linter.unusedSimpArgs false
open Go.RowKit Go.Shelf Go.Proofs.YtehbabkgaecoaaaW.PrintWords

set_option maxHeartbeats 1000000 in
theorem port_some (A1 A8 A9 A10 A11 : Option Addr) (c1 c8 c9 c10 c11 : Nat) (C : S29) (w : World) (h : CfgIn w C A1 A8 A9 A10 A11 c1 c8 c9 c10 c11) (n : Nat) (p : S59) (hp : C.f10[n]? = some p) : Calls Try.prog 73 #[.agg #[.int .i64 C.f0, .slice A1 C.f1.length c1, .int .i64 C.f2, .int .i64 C.f3, .int .i64 C.f4, .int .i64 C.f5, .int .i64 C.f6, .int .i64 C.f7, .slice A8 C.f8.length c8, .slice A9 C.f9.length c9, .slice A10 C.f10.length c10, .slice A11 C.f11.length c11], .int .i64 n] w fun e w' => e = .returned (.tuple #[.agg #[.int .i64 p.f0, .int .i64 p.f1, .int .i64 p.f2, .int .i64 p.f3, .int .i64 p.f4, .int .i64 p.f5], .bool true]) ∧ Below w.heap.size w w' := by
  obtain ⟨l1, l8, l9, l10, l11⟩ := h.len
  have hn := (List.getElem?_eq_some_iff.1 hp).1
  obtain ⟨ad, q, e10, p0, p1, p2, p3, p4, p5, HV⟩ := at_Q h.2.2.2.1.2 n hn
  have hq := HV.out
  rw [hp] at hq
  cases hq
  subst e10
  have hbd := World.block_lt_of_cell? w _ p0
  have hb : Below w.heap.size w ((w.alloc (Obj.cells #[.int .i64 C.f0, .slice A1 C.f1.length c1, .int .i64 C.f2, .int .i64 C.f3, .int .i64 C.f4, .int .i64 C.f5, .int .i64 C.f6, .int .i64 C.f7, .slice A8 C.f8.length c8, .slice A9 C.f9.length c9, .slice (some ad) C.f10.length c10, .slice A11 C.f11.length c11] 29)).alloc (Obj.cells #[.int .i64 p.f0, .int .i64 p.f1, .int .i64 p.f2, .int .i64 p.f3, .int .i64 p.f4, .int .i64 p.f5] 59)) := ((Below.refl _ _).alloc (Nat.le_refl _) _).alloc (by simp) _
  have HB := Lib.hid hb
  clear hb h hp HV
  go_enter Try.func73, Try.ntmps73
  go_wp2_with fail
  refine (within_true _ ⟨by omega, by omega⟩).mono ?_
  rintro e w' ⟨rfl, rfl⟩
  go_wp2
  refine bodyPost_ret (v := .tuple #[.agg #[.int .i64 p.f0, .int .i64 p.f1, .int .i64 p.f2, .int .i64 p.f3, .int .i64 p.f4, .int .i64 p.f5], .bool true]) (by simp [results, Try.f73, go_sem]) rfl ?_
  exact ⟨rfl, HB.out⟩
set_option maxHeartbeats 1000000 in
theorem port_none (A1 A8 A9 A10 A11 : Option Addr) (c1 c8 c9 c10 c11 : Nat) (C : S29) (w : World) (h : CfgIn w C A1 A8 A9 A10 A11 c1 c8 c9 c10 c11) (n : Int) (hn : ¬ (0 ≤ n ∧ n < C.f10.length)) : Calls Try.prog 73 #[.agg #[.int .i64 C.f0, .slice A1 C.f1.length c1, .int .i64 C.f2, .int .i64 C.f3, .int .i64 C.f4, .int .i64 C.f5, .int .i64 C.f6, .int .i64 C.f7, .slice A8 C.f8.length c8, .slice A9 C.f9.length c9, .slice A10 C.f10.length c10, .slice A11 C.f11.length c11], .int .i64 n] w fun e w' => e = .returned (.tuple #[.agg #[.int .i64 0, .int .i64 0, .int .i64 0, .int .i64 0, .int .i64 0, .int .i64 0], .bool false]) ∧ Below w.heap.size w w' := by
  obtain ⟨l1, l8, l9, l10, l11⟩ := h.len
  have hb : Below w.heap.size w ((w.alloc (Obj.cells #[.int .i64 C.f0, .slice A1 C.f1.length c1, .int .i64 C.f2, .int .i64 C.f3, .int .i64 C.f4, .int .i64 C.f5, .int .i64 C.f6, .int .i64 C.f7, .slice A8 C.f8.length c8, .slice A9 C.f9.length c9, .slice A10 C.f10.length c10, .slice A11 C.f11.length c11] 29)).alloc (Obj.cells #[.int .i64 0, .int .i64 0, .int .i64 0, .int .i64 0, .int .i64 0, .int .i64 0] 59)) := ((Below.refl _ _).alloc (Nat.le_refl _) _).alloc (by simp) _
  have HB := Lib.hid hb
  clear hb h
  go_enter Try.func73, Try.ntmps73
  go_wp2_with fail
  refine (within_false _ (fun h => hn ⟨h.1, by omega⟩)).mono ?_
  rintro e w' ⟨rfl, rfl⟩
  go_wp2
  refine bodyPost_ret (v := .tuple #[.agg #[.int .i64 0, .int .i64 0, .int .i64 0, .int .i64 0, .int .i64 0, .int .i64 0], .bool false]) (by simp [results, Try.f73, go_sem]) rfl ?_
  exact ⟨rfl, HB.out⟩

def ownerW (C : S29) (slot : Int) : Int := if slot < 0 ∨ C.f0 < 1 ∨ (C.f1.length : Int) ≠ C.f0 then -1 else C.f1.getD (slot % C.f0).toNat 0
set_option maxHeartbeats 2000000 in
theorem owner_calls (A1 A8 A9 A10 A11 : Option Addr) (c1 c8 c9 c10 c11 : Nat) (C : S29) (slot : Int) (w : World) (h : CfgIn w C A1 A8 A9 A10 A11 c1 c8 c9 c10 c11) : Calls Try.prog 24 #[.agg #[.int .i64 C.f0, .slice A1 C.f1.length c1, .int .i64 C.f2, .int .i64 C.f3, .int .i64 C.f4, .int .i64 C.f5, .int .i64 C.f6, .int .i64 C.f7, .slice A8 C.f8.length c8, .slice A9 C.f9.length c9, .slice A10 C.f10.length c10, .slice A11 C.f11.length c11], .int .i64 slot] w fun e w' => e = .returned (.int .i64 (ownerW C slot)) ∧ Below w.heap.size w w' := by
  have hb : Below w.heap.size w (w.alloc (Obj.cells #[.int .i64 C.f0, .slice A1 C.f1.length c1, .int .i64 C.f2, .int .i64 C.f3, .int .i64 C.f4, .int .i64 C.f5, .int .i64 C.f6, .int .i64 C.f7, .slice A8 C.f8.length c8, .slice A9 C.f9.length c9, .slice A10 C.f10.length c10, .slice A11 C.f11.length c11] 29)) := (Below.refl _ _).alloc (Nat.le_refl _) _
  have HB := Lib.hid hb
  have HR := Lib.hid h
  obtain ⟨l1, l8, l9, l10, l11⟩ := h.len
  clear hb h
  by_cases h1 : slot < 0
  · have hr : ownerW C slot = -1 := by simp [ownerW, h1]
    rw [hr]; clear hr
    go_enter Try.func24, Try.ntmps24
    go_wp2
    go_ret
    exact ⟨rfl, HB.out⟩
  by_cases h2 : C.f0 < 1
  · have hr : ownerW C slot = -1 := by simp [ownerW, h2]
    rw [hr]; clear hr
    go_enter Try.func24, Try.ntmps24
    go_wp2
    go_ret
    exact ⟨rfl, HB.out⟩
  by_cases h3 : (C.f1.length : Int) = C.f0
  case neg =>
    have hr : ownerW C slot = -1 := by simp [ownerW, h3]
    rw [hr]; clear hr
    have e3 : ((C.f1.length : Int) != C.f0) = true := by simpa using h3
    clear h3
    go_enter Try.func24, Try.ntmps24
    go_wp2
    go_ret
    exact ⟨rfl, HB.out⟩
  have e3 : ((C.f1.length : Int) != C.f0) = false := by simpa using h3
  have hm0 := Int.emod_nonneg slot (show C.f0 ≠ 0 by omega)
  have hm1 := Int.emod_lt_of_pos slot (show 0 < C.f0 by omega)
  obtain ⟨ad, v, e1, hc, HV⟩ := at_I HR.out.1.2 (slot % C.f0).toNat (by omega)
  have hr := Lib.hid (show ownerW C slot = v by rw [ownerW, if_neg (by omega), List.getD_eq_getElem?_getD, HV.out]; rfl)
  subst e1
  have hm2 : slot % C.f0 < (C.f1.length : Int) := by omega
  have h10 : 0 ≤ slot := by omega
  have hbd := World.block_lt_of_cell? w _ hc
  have hne : C.f0 ≠ 0 := by omega
  have hne' : (C.f0 == 0) = false := by simpa using hne
  have htm : slot.tmod C.f0 = slot % C.f0 := by rw [Int.tmod_eq_emod_of_nonneg h10]
  have HTM := Lib.hid htm
  clear htm h3
  go_enter Try.func24, Try.ntmps24
  go_wp2
  go_region
  go_wp2
  go_ret
  exact ⟨ret_int hr.out.symm, HB.out.drew⟩
end Go.Proofs.Ytehbabkgaecoaaa
