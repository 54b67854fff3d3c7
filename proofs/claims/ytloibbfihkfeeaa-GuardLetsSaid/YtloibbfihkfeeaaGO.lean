/- The statements' arguments, opened: a clock, a slice of shots. -/
import Derived.Test.YtloibbfihkfeeaaGS
import Derived.Test.YtloibbfihkfeeaaOpenRow
namespace Go.Proofs.Ytloibbfihkfeeaa
set_option linter.unusedVariables false
set_option linter.unusedSimpArgs false
open Go.RowKit Go.Shelf Go.Proofs.YtloibbfihkfeeaaW.PrintWords

def kClk : Kd (Int × Int) := Kd.iso (Kd.pair (Kd.int .i64) (Kd.int .i64)) (fun x : Int × Int => (x.1, x.2))
theorem oClk : Opens Try.prog 30 kClk (fun x => I64 x.1 ∧ I64 x.2) :=
  opens_struct (fun x : Int × Int => (x.1, x.2)) (fun x => (x.1, x.2)) Try.underlying30 (by kernel_rfl) (opensF_cons oI rfl (by kernel_rfl) rfl (opensF_one oI rfl (by kernel_rfl))) (fun _ => rfl)
theorem oClk_cells {w : World} {x : Int × Int} {cs : List Value} (h : kClk.K w x cs) : cs = [.int .i64 x.1, .int .i64 x.2] := by
  obtain ⟨a, b, rfl, h1, h2⟩ := h
  cases h1
  cases h2
  rfl
def ShotI (x : S32) : Prop := I64 x.f0 ∧ I64 x.f1 ∧ I64 x.f2
theorem oShot : Opens Try.prog 32 k32 ShotI :=
  opens_struct (fun x : S32 => (x.f0, x.f1, x.f2)) (fun x => ⟨x.1, x.2.1, x.2.2⟩) Try.underlying32 (by kernel_rfl)
    (opensF_cons oI rfl (by kernel_rfl) rfl (opensF_cons oI rfl (by kernel_rfl) rfl (opensF_one oI rfl (by kernel_rfl)))) (fun _ => rfl)
theorem open_shots {H : Type} {enc : TypeId × Value → H} {w : World} {base : Nat} {spare : Nat → Bool} {held : Bool} {a : Option Addr} {len cap : Nat} {y : DataW H} {p : List MemPlace} (h : DataW.Trod enc Try.prog w base spare held 45 (.slice a len cap) y p) :
    ∃ l : List (S32), len = l.length ∧ Kd.C k32 w a l.length l ∧ l.length ≤ cap ∧ (l.length ≤ maxLen ∧ ∀ x ∈ l, ShotI x) :=
  open_row (opens_slice Try.underlying45 oShot (by kernel_rfl)) h
theorem shifted_row (w : World) (A1 A8 A9 A10 A11 : Option Addr) (c1 c8 c9 c10 c11 : Nat) (C : S28) (h : CfgIn w C A1 A8 A9 A10 A11 c1 c8 c9 c10 c11) (_hC : CfgOk C) (x : Int × Int) (hx : I64 x.1 ∧ I64 x.2) (A : Option Addr) (c : Nat) (l : List Sh) (hr : Kd.C k32 w A l.length l) (hc : l.length ≤ c) (_hl : l.length ≤ maxLen ∧ ∀ x ∈ l, ShotI x) :
    Calls Try.prog 6 #[.agg #[.int .i64 C.f0, .slice A1 C.f1.length c1, .int .i64 C.f2, .int .i64 C.f3, .int .i64 C.f4, .int .i64 C.f5, .int .i64 C.f6, .int .i64 C.f7, .slice A8 C.f8.length c8, .slice A9 C.f9.length c9, .slice A10 C.f10.length c10, .slice A11 C.f11.length c11], .agg #[.int .i64 x.1, .int .i64 x.2], .slice A l.length c] w fun e w' => e = .returned (.bool true) ∧ Below w.heap.size w w' :=
  shifted_calls _ _ _ _ _ _ _ _ _ _ C w h x.1 x.2 hx.1 hx.2 A c l hr hc
end Go.Proofs.Ytloibbfihkfeeaa
