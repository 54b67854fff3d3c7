/- What the document's Turn answers. -/
import Derived.Test.YtehbabkgaecoaaaCkF
namespace Go.Proofs.Ytehbabkgaecoaaa
set_option linter.unusedVariables false
set_option linter.unusedSimpArgs false
open Go.RowKit Go.Shelf Go.Proofs.YtehbabkgaecoaaaW.PrintWords

theorem rturn_calls (A1 A8 A9 A10 A11 : Option Addr) (c1 c8 c9 c10 c11 : Nat) (C : S29) (n : Int) (w : World) (h : CfgIn w C A1 A8 A9 A10 A11 c1 c8 c9 c10 c11) : Calls Try.prog 27 #[.agg #[.int .i64 C.f0, .slice A1 C.f1.length c1, .int .i64 C.f2, .int .i64 C.f3, .int .i64 C.f4, .int .i64 C.f5, .int .i64 C.f6, .int .i64 C.f7, .slice A8 C.f8.length c8, .slice A9 C.f9.length c9, .slice A10 C.f10.length c10, .slice A11 C.f11.length c11], .int .i64 n] w fun e w' => e = .returned (.int .i64 (idxI C.f1 n)) ∧ Below w.heap.size w w' := by
  have hb : Below w.heap.size w (w.alloc (Obj.cells #[.int .i64 C.f0, .slice A1 C.f1.length c1, .int .i64 C.f2, .int .i64 C.f3, .int .i64 C.f4, .int .i64 C.f5, .int .i64 C.f6, .int .i64 C.f7, .slice A8 C.f8.length c8, .slice A9 C.f9.length c9, .slice A10 C.f10.length c10, .slice A11 C.f11.length c11] 29)) := (Below.refl _ _).alloc (Nat.le_refl _) _
  have HB := Lib.hid hb
  have HR := Lib.hid (h.below hb)
  obtain ⟨l1, l8, l9, l10, l11⟩ := h.len
  clear hb h
  go_enter Try.func27, Try.ntmps27
  go_wp2
  go_loop [5] (fun i => ∃ k : Nat, k ≤ C.f1.length ∧ i = .int .i64 k ∧ Hid (n ∉ C.f1.take k)) (fun i => C.f1.length - (intOf i).toNat)
  case atStart => exact ⟨0, by omega, rfl, Lib.hid (by simp)⟩
  case round =>
    obtain ⟨k, hk, rfl, HN⟩ := hrel
    by_cases hlt : k < C.f1.length
    · obtain ⟨ad, v, e1, hc, HV⟩ := at_I HR.out.1.2 k hlt
      cases e1
      by_cases hx : v = n
      · have e1 : (v == n) = true := by simpa using hx
        have hres := Lib.hid (idxI_at HN.out (hx ▸ HV.out))
        clear hx
        go_wp2
        go_ret
        exact ⟨ret_int hres.out.symm, HB.out⟩
      · have e1 : (v == n) = false := by simpa using hx
        have HN' := Lib.hid (not_take_succ HN.out HV.out (fun h => hx h.symm))
        clear hx
        go_wp2
        go_round
        case rel => exact ⟨k + 1, by omega, by go_num, HN'⟩
        case measure => simp [intOf]; omega
    · have hn := HN.out
      rw [List.take_of_length_le (by omega)] at hn
      have hres := Lib.hid (idxI_none hn)
      clear hn
      go_wp2
      go_ret
      exact ⟨ret_int hres.out.symm, HB.out⟩
end Go.Proofs.Ytehbabkgaecoaaa
