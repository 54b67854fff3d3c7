/- More, Sum and alive as Lean functions, each with the proof that the Go code comes to its answers where the table of nibbles lies as the text lays it. -/
import Derived.Test.YtenbdejhakdihaaDoorParts
namespace Go.Proofs.YtenbdejhakdihaaDoor
open Go.RowKit Go.Proofs.YtenbdejhakdihaaDoorW.PrintWords Go.Proofs.YtenbdejhakdihaaDoorW.PrintLast

def isBytes (l : List Int) : Bool := decide (l.length ≤ 140737488355328) && l.all fun x => decide (0 ≤ x) && decide (x < 256)
theorem isBytes_of {l : List Int} (h : isBytes l = true) : l.length ≤ 140737488355328 ∧ ∀ x ∈ l, 0 ≤ x ∧ x < 256 := by
  simp only [isBytes, Bool.and_eq_true, decide_eq_true_eq, List.all_eq_true] at h
  exact ⟨h.1, fun x hx => h.2 x hx⟩
theorem isBytes_mk {l : List Int} (hl : l.length ≤ 140737488355328) (hw : ∀ x ∈ l, 0 ≤ x ∧ x < 256) : isBytes l = true := by
  simp only [isBytes, Bool.and_eq_true, decide_eq_true_eq, List.all_eq_true]
  exact ⟨hl, fun x hx => hw x hx⟩
def sum_More.f (a0 : Int) (l1 : List Int) : Option Int := if (decide (0 ≤ a0) && decide (a0 < 4294967296) && isBytes l1) = true then some (more a0.toNat l1 : Nat) else none
def sum_Sum.f (l0 : List Int) : Option Int := if isBytes l0 = true then some (more 0 l0 : Nat) else none
def rotalaw01_alive.f : Option Bool := some true
theorem sum_More.calls (a0 : Int) (A1 : Option Addr) (c1 : Nat) (l1 : List Int) (r : Int) (w : World) (hr1 : Kd.C (Kd.int .u8) w A1 l1.length l1) (hc1 : l1.length ≤ c1) (h : sum_More.f a0 l1 = some r) (hN : NibsAt w) :
    Calls Tryd.prog 12 #[.int .u32 a0, .slice A1 l1.length c1] w fun e w' => e = .returned (.int .u32 r) ∧ Drawn0 w w' := by
  unfold sum_More.f at h
  split at h
  · rename_i hc
    simp only [Bool.and_eq_true, decide_eq_true_eq] at hc
    obtain ⟨⟨h0, h1⟩, hb⟩ := hc
    obtain rfl := Option.some.inj h
    obtain ⟨hl, hw⟩ := isBytes_of hb
    have e : a0 = (a0.toNat : Int) := by omega
    have := more_calls a0.toNat w A1 c1 l1 hr1 (by omega) hc1 hl hN hw
    rw [← e] at this
    exact this.mono fun e w' ⟨h1, h2⟩ => ⟨h1, h2 ▸ Drawn0.refl _⟩
  · cases h
theorem sum_Sum.calls (A0 : Option Addr) (c0 : Nat) (l0 : List Int) (r : Int) (w : World) (hr0 : Kd.C (Kd.int .u8) w A0 l0.length l0) (hc0 : l0.length ≤ c0) (h : sum_Sum.f l0 = some r) (hN : NibsAt w) :
    Calls Tryd.prog 13 #[.slice A0 l0.length c0] w fun e w' => e = .returned (.int .u32 r) ∧ Drawn0 w w' := by
  unfold sum_Sum.f at h
  split at h
  · rename_i hb
    obtain rfl := Option.some.inj h
    obtain ⟨hl, hw⟩ := isBytes_of hb
    exact (sum_calls w A0 c0 l0 hr0 hc0 hl hN hw).mono fun e w' ⟨h1, h2⟩ => ⟨h1, h2 ▸ Drawn0.refl _⟩
  · cases h
theorem rotalaw01_alive.calls (r : Bool) (w : World) (h : rotalaw01_alive.f = some r) (hN : NibsAt w) : Calls Tryd.prog 11 #[] w fun e w' => e = .returned (.bool r) ∧ Below w.heap.size w w' := by
  obtain rfl := Option.some.inj h
  exact alive_calls w hN
end Go.Proofs.YtenbdejhakdihaaDoor
