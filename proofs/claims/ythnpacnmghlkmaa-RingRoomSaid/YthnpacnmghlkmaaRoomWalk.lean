/- The law RingRoom's walk. -/
import Derived.Test.YthnpacnmghlkmaaRoomPlain
import Derived.Test.YthnpacnmghlkmaaOpenArcs
import Derived.OpenShut
namespace Go.Proofs.Ythnpacnmghlkmaa
open Go.RowKit Go.Proofs.Ythnpacnmghlkmaa.Px Go.Proofs.Ythnpacnmghlkmaa.Qr Go.Proofs.YthnpacnmghlkmaaW.PrintWords

theorem ringRoom_walk (w : World) (A0 : Option Addr) (c0 : Nat) (l0 : List S52) (hr0 : Kd.C k52 w A0 l0.length l0) (hc0 : l0.length ≤ c0) (_hw0 : ∀ x ∈ l0, (Lit.int .i64 x.f0).wf = true ∧ (Lit.int .i64 x.f1).wf = true)
    (a1 : Int) (_w1 : (Lit.int .i64 a1).wf = true) (a2 : Int) (w2 : (Lit.int .u16 a2).wf = true) :
    Calls Try.prog 9 #[.slice A0 l0.length c0, .int .i64 a1, .int .u16 a2] w fun e w' => e = .returned (.bool true) ∧ Below w.heap.size w w' := by
  have hb := bounds_u16 w2
  exact rotalaw13_RingRoom.calls 70000 A0 c0 l0 a1 a2 true w hr0 hc0 (Room.ringRoom_plain l0 a1 a2 hb.1 (by omega))
end Go.Proofs.Ythnpacnmghlkmaa
