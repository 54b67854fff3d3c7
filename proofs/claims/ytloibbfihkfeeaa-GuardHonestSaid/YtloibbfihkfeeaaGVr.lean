/- The walk of GuardHonest, over its arguments opened. -/
import Derived.Test.YtloibbfihkfeeaaGO
import Derived.Test.YtloibbfihkfeeaaGV
namespace Go.Proofs.Ytloibbfihkfeeaa
set_option linter.unusedVariables false
set_option linter.unusedSimpArgs false
open Go.RowKit Go.Shelf Go.Proofs.YtloibbfihkfeeaaW.PrintWords

def OneI (x : S34) : Prop := I64 x.f0 ∧ ShotI x.f1
theorem oOne : Opens Try.prog 34 k34 OneI :=
  opens_struct (fun x : S34 => (x.f0, x.f1)) (fun x => ⟨x.1, x.2⟩) Try.underlying34 (by kernel_rfl)
    (opensF_cons oI rfl (by kernel_rfl) rfl (opensF_one oShot rfl (by kernel_rfl))) (fun _ => rfl)
theorem open_ones {H : Type} {enc : TypeId × Value → H} {w : World} {base : Nat} {spare : Nat → Bool} {held : Bool} {a : Option Addr} {len cap : Nat} {y : DataW H} {p : List MemPlace} (h : DataW.Trod enc Try.prog w base spare held 59 (.slice a len cap) y p) :
    ∃ l : List (S34), len = l.length ∧ Kd.C k34 w a l.length l ∧ l.length ≤ cap ∧ (l.length ≤ maxLen ∧ ∀ x ∈ l, OneI x) :=
  open_row (opens_slice Try.underlying59 oOne (by kernel_rfl)) h
theorem honest_row (w : World) (A1 A8 A9 A10 A11 : Option Addr) (c1 c8 c9 c10 c11 : Nat) (C : S28) (h : CfgIn w C A1 A8 A9 A10 A11 c1 c8 c9 c10 c11) (_hC : CfgOk C) (x : Int × Int) (hx : I64 x.1 ∧ I64 x.2) (A : Option Addr) (c : Nat) (l : List S34) (hr : Kd.C k34 w A l.length l) (hc : l.length ≤ c) (_hl : l.length ≤ maxLen ∧ ∀ x ∈ l, OneI x) :
    Calls Try.prog 8 #[.agg #[.int .i64 C.f0, .slice A1 C.f1.length c1, .int .i64 C.f2, .int .i64 C.f3, .int .i64 C.f4, .int .i64 C.f5, .int .i64 C.f6, .int .i64 C.f7, .slice A8 C.f8.length c8, .slice A9 C.f9.length c9, .slice A10 C.f10.length c10, .slice A11 C.f11.length c11], .agg #[.int .i64 x.1, .int .i64 x.2], .slice A l.length c] w fun e w' => e = .returned (.bool true) ∧ Below w.heap.size w w' :=
  honest_calls _ _ _ _ _ _ _ _ _ _ C w h x.1 x.2 hx.1 hx.2 A c l hr hc
end Go.Proofs.Ytloibbfihkfeeaa
