/- ConfigSpoilt's arguments, opened. -/
import Derived.Test.YtehbabkgaecoaaaCS
import Derived.Test.YtehbabkgaecoaaaOpenRow
namespace Go.Proofs.Ytehbabkgaecoaaa
set_option linter.unusedVariables false
set_option linter.unusedSimpArgs false
open Go.RowKit Go.Shelf Go.Proofs.YtehbabkgaecoaaaW.PrintWords

def kSp : Kd (Int × Int × Int) := Kd.iso (Kd.pair (Kd.int .i64) (Kd.pair (Kd.int .u8) (Kd.int .i64))) (fun x : Int × Int × Int => (x.1, x.2.1, x.2.2))
theorem oU8 : Opens Try.prog 5 (Kd.int .u8) (fun n => (Lit.int .u8 n).wf = true) := opens_int Try.underlying5
theorem oSp : Opens Try.prog 55 kSp (fun x => I64 x.1 ∧ (Lit.int .u8 x.2.1).wf = true ∧ I64 x.2.2) :=
  opens_struct (fun x : Int × Int × Int => (x.1, x.2.1, x.2.2)) (fun x => (x.1, x.2.1, x.2.2)) Try.underlying55 (by kernel_rfl) (opensF_cons oI rfl (by kernel_rfl) rfl (opensF_cons oU8 rfl (by kernel_rfl) rfl (opensF_one oI rfl (by kernel_rfl)))) (fun _ => rfl)
theorem oSp_cells {w : World} {x : Int × Int × Int} {cs : List Value} (h : kSp.K w x cs) : cs = [.int .i64 x.1, .int .u8 x.2.1, .int .i64 x.2.2] := by
  obtain ⟨a, b, rfl, h1, c, d, rfl, h2, h3⟩ := h
  cases h1
  cases h2
  cases h3
  rfl
theorem spoilt_row (w : World) (A1 A8 A9 A10 A11 : Option Addr) (c1 c8 c9 c10 c11 : Nat) (C : S29) (h : CfgIn w C A1 A8 A9 A10 A11 c1 c8 c9 c10 c11) (hC : CfgOk C) (hz : SzOk C) (x : Int × Int × Int) (hx : I64 x.1 ∧ (Lit.int .u8 x.2.1).wf = true ∧ I64 x.2.2) :
    Calls Try.prog 8 #[.agg #[.int .i64 C.f0, .slice A1 C.f1.length c1, .int .i64 C.f2, .int .i64 C.f3, .int .i64 C.f4, .int .i64 C.f5, .int .i64 C.f6, .int .i64 C.f7, .slice A8 C.f8.length c8, .slice A9 C.f9.length c9, .slice A10 C.f10.length c10, .slice A11 C.f11.length c11], .agg #[.int .i64 x.1, .int .u8 x.2.1, .int .i64 x.2.2]] w fun e w' => e = .returned (.bool true) ∧ Below w.heap.size w w' :=
  spoilt_calls w _ _ _ _ _ _ _ _ _ _ C h hC hz x.1 hx.1 x.2.1 hx.2.1 x.2.2 hx.2.2
end Go.Proofs.Ytehbabkgaecoaaa
