/- The law RingArcs's walk. -/
import Derived.Test.YthnpacnmghlkmaaArcsLaw
import Derived.Test.YthnpacnmghlkmaaOpenArcs
import Derived.OpenShut
namespace Go.Proofs.Ythnpacnmghlkmaa
open Go.RowKit Go.Proofs.Ythnpacnmghlkmaa.Px Go.Proofs.Ythnpacnmghlkmaa.Qa Go.Proofs.YthnpacnmghlkmaaW.PrintWords

theorem ringArcs_walk (w : World) (A0 : Option Addr) (c0 : Nat) (l0 : List S52) (hr0 : Kd.C k52 w A0 l0.length l0) (hc0 : l0.length ≤ c0) (_hw0 : ∀ x ∈ l0, (Lit.int .i64 x.f0).wf = true ∧ (Lit.int .i64 x.f1).wf = true)
    (a1 : Int) (_w1 : (Lit.int .i64 a1).wf = true) (a2 : Int) (_w2 : (Lit.int .i64 a2).wf = true) :
    Calls Try.prog 8 #[.slice A0 l0.length c0, .int .i64 a1, .int .i64 a2] w fun e w' => e = .returned (.bool true) ∧ Below w.heap.size w w' :=
  rotalaw13_RingArcs.calls 3000000 A0 c0 l0 a1 a2 true w hr0 hc0 (Arcs.ringArcs_plain l0 a1 a2)
end Go.Proofs.Ythnpacnmghlkmaa
