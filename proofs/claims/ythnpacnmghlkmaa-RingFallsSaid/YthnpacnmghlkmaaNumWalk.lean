/- The walk of RingNumbers: what is a multiple of what, and how often something falls, are the document's. -/
import Derived.Test.YthnpacnmghlkmaaNumbers
import Derived.Test.YthnpacnmghlkmaaPlaces
namespace Go.Proofs.Ythnpacnmghlkmaa
open Go.RowKit Go.Proofs.Ythnpacnmghlkmaa.Px Go.Proofs.YthnpacnmghlkmaaW.PrintWords Go.Proofs.YthnpacnmghlkmaaW.PrintLast

/-- The cells of a boxed array of four whole numbers. -/
def Boxed4 (w : World) (B : Nat) (x y z u : Int) : Prop := w.cell? ⟨B, 0, none⟩ = some (.int .i64 x) ∧ w.cell? ⟨B, 1, none⟩ = some (.int .i64 y) ∧ w.cell? ⟨B, 2, none⟩ = some (.int .i64 z) ∧ w.cell? ⟨B, 3, none⟩ = some (.int .i64 u)
theorem kept {w w1 : World} (hb : Below w.heap.size w w1) {B i : Nat} {v : Value} (h : w.cell? ⟨B, i, none⟩ = some v) : w1.cell? ⟨B, i, none⟩ = some v := (hb.cell (World.block_lt_of_cell? w _ h)).trans h
theorem Boxed4.keep {w w1 : World} {B : Nat} {x y z u : Int} (h : Boxed4 w B x y z u) (hb : Below w.heap.size w w1) : Boxed4 w1 B x y z u :=
  ⟨kept hb h.1, kept hb h.2.1, kept hb h.2.2.1, kept hb h.2.2.2⟩
theorem Boxed4.new (w : World) (x y z u : Int) (t : TypeId) : Boxed4 (w.alloc (.cells #[.int .i64 x, .int .i64 y, .int .i64 z, .int .i64 u] t)) w.heap.size x y z u := by
  refine ⟨?_, ?_, ?_, ?_⟩ <;> rw [cell_of_row _ _ _ _ _ _ (heap_alloc_new w _)] <;> rfl

theorem lcm_at (a b : Int) (w : World) {p q : Int} (h : lcmOf a b = (p, q)) : Calls Try.prog 19 #[.int .i64 a, .int .i64 b] w fun e w' => e = .returned (.tuple #[.int .i64 p, .int .i64 q]) ∧ Below w.heap.size w w' :=
  ring_Lcm.calls 2147483661 a b p q w (by rw [lcm_eq _ a b (by omega), h])
theorem refLcm_at (a b : Int) (w : World) {p q : Int} (h : lcmOf a b = (p, q)) : Calls Try.prog 20 #[.int .i64 a, .int .i64 b] w fun e w' => e = .returned (.tuple #[.int .i64 p, .int .i64 q]) ∧ Below w.heap.size w w' :=
  (rotaref13_Lcm.calls 111 a b p q w (by rw [refLcm_eq _ a b (by omega), h])).mono fun _ _ ⟨h1, h2⟩ => ⟨h1, by first | exact h2 | exact h2.below⟩
theorem falls_at (a b c d : Int) (w : World) {p q : Int} (h : fallsOf a b c d = (p, q)) : Calls Try.prog 23 #[.int .i64 a, .int .i64 b, .int .i64 c, .int .i64 d] w fun e w' => e = .returned (.tuple #[.int .i64 p, .int .i64 q]) ∧ Below w.heap.size w w' :=
  ring_Falls.calls 11 a b c d p q w (by rw [falls_eq _ a b c d (by omega), h])
theorem refFalls_at (a b c d : Int) (w : World) {p q : Int} (h : fallsOf a b c d = (p, q)) : Calls Try.prog 24 #[.int .i64 a, .int .i64 b, .int .i64 c, .int .i64 d] w fun e w' => e = .returned (.tuple #[.int .i64 p, .int .i64 q]) ∧ Below w.heap.size w w' :=
  (rotaref13_Falls.calls 11 a b c d p q w (by rw [refFalls_eq _ a b c d (by omega), h])).mono fun _ _ ⟨h1, h2⟩ => ⟨h1, by first | exact h2 | exact h2.below⟩
theorem gcd_at (a b : Int) (w : World) {g : Int} (h : (if Small a ∧ Small b then ((Int.gcd a b : Nat) : Int) else 0) = g) : Calls Try.prog 25 #[.int .i64 a, .int .i64 b] w fun e w' => e = .returned (.int .i64 g) ∧ Below w.heap.size w w' :=
  ring_Gcd.calls 2147483651 a b g w (by rw [gcd_eq _ a b (by omega), h])
theorem refGcd_at (a b : Int) (w : World) {g : Int} (h : (if Small a ∧ Small b then ((Int.gcd a b : Nat) : Int) else 0) = g) : Calls Try.prog 26 #[.int .i64 a, .int .i64 b] w fun e w' => e = .returned (.int .i64 g) ∧ Below w.heap.size w w' :=
  (rotaref13_Gcd.calls 101 a b g w (by rw [refGcd_eq _ a b (by omega), h])).mono fun _ _ ⟨h1, h2⟩ => ⟨h1, by first | exact h2 | exact h2.below⟩
theorem hyper_at (w : World) (A0 : Option Addr) (c0 : Nat) (l0 : List Int) (hr0 : Kd.C (Kd.int .i64) w A0 l0.length l0) (hc0 : l0.length ≤ c0) (hl : l0.length ≤ 100) {p q : Int} (h : hyperOf 1 l0 = (p, q)) :
    Calls Try.prog 21 #[.slice A0 l0.length c0] w fun e w' => e = .returned (.tuple #[.int .i64 p, .int .i64 q]) ∧ Below w.heap.size w w' :=
  ring_Hyper.calls 2147483801 A0 c0 l0 p q w hr0 hc0 (by rw [hyper_eq _ l0 hl (by omega), h])
theorem refHyper_at (w : World) (A0 : Option Addr) (c0 : Nat) (l0 : List Int) (hr0 : Kd.C (Kd.int .i64) w A0 l0.length l0) (hc0 : l0.length ≤ c0) (hl : l0.length ≤ 100) {p q : Int} (h : hyperOf 1 l0 = (p, q)) :
    Calls Try.prog 22 #[.slice A0 l0.length c0] w fun e w' => e = .returned (.tuple #[.int .i64 p, .int .i64 q]) ∧ Below w.heap.size w w' :=
  (rotaref13_Hyper.calls 301 A0 c0 l0 p q w hr0 hc0 (by rw [refHyper_eq _ l0 hl (by omega), h])).mono fun _ _ ⟨h1, h2⟩ => ⟨h1, by first | exact h2 | exact h2.below⟩

set_option maxRecDepth 100000 in
set_option maxHeartbeats 1600000 in
theorem ringNumbers_walk (w : World) (A0 : Option Addr) (c0 : Nat) (l0 : List Int) (hr0 : Kd.C (Kd.int .i64) w A0 l0.length l0) (hc0 : l0.length ≤ c0) (_hl0 : l0.length * 8 ≤ 140737488351232) (_hw0 : ∀ x ∈ l0, (Lit.int .i64 x).wf = true)
    (x : Int) (_wx : (Lit.int .i64 x).wf = true) (y : Int) (_wy : (Lit.int .i64 y).wf = true) (z : Int) (_wz : (Lit.int .i64 z).wf = true) (u : Int) (_wu : (Lit.int .i64 u).wf = true) :
    Calls Try.prog 5 #[.slice A0 l0.length c0, .agg #[.int .i64 x, .int .i64 y, .int .i64 z, .int .i64 u]] w fun e w' => e = .returned (.bool true) ∧ Below w.heap.size w w' := by
  have hB := (Below.refl w.heap.size w).alloc (Nat.le_refl _) (.cells #[.int .i64 x, .int .i64 y, .int .i64 z, .int .i64 u] 38)
  by_cases hbig : (100 : Int) < (l0.length : Int)
  · go_enter Try.func5, Try.ntmps5
    go_wp2
    go_ret
    exact ⟨rfl, hB⟩
  · have hl : l0.length ≤ 100 := by omega
    have hbox := Boxed4.new w x y z u 38
    obtain ⟨p1, q1, e1⟩ : ∃ p q, lcmOf x y = (p, q) := ⟨_, _, rfl⟩
    obtain ⟨p2, q2, e2⟩ : ∃ p q, hyperOf 1 l0 = (p, q) := ⟨_, _, rfl⟩
    obtain ⟨p3, q3, e3⟩ : ∃ p q, fallsOf x y z u = (p, q) := ⟨_, _, rfl⟩
    obtain ⟨g, e4⟩ : ∃ g, (if Small x ∧ Small y then ((Int.gcd x y : Nat) : Int) else 0) = g := ⟨_, rfl⟩
    have HR := Lib.hid hr0
    have C0 := fun W => Lib.hid (lcm_at x y W e1)
    have C1 := fun W => Lib.hid (refLcm_at x y W e1)
    have C2 := fun (W : World) (hb : Below w.heap.size w W) => Lib.hid (hyper_at W A0 c0 l0 (Kd.C_below HR.out hb) hc0 hl e2)
    have C3 := fun (W : World) (hb : Below w.heap.size w W) => Lib.hid (refHyper_at W A0 c0 l0 (Kd.C_below HR.out hb) hc0 hl e2)
    have C4 := fun W => Lib.hid (falls_at x y z u W e3)
    have C5 := fun W => Lib.hid (refFalls_at x y z u W e3)
    have C6 := fun W => Lib.hid (gcd_at x y W e4)
    have C7 := fun W => Lib.hid (refGcd_at x y W e4)
    clear e1 e2 e3 e4 hr0
    go_enter Try.func5, Try.ntmps5
    go_wp2_with fail
    refine (C0 _).out.mono ?_
    rintro e W0 ⟨rfl, hb⟩
    skip
    replace hbox := hbox.keep hb
    replace hB := below_step hB hb
    have c := hbox
    obtain ⟨g0, g1, g2, g3⟩ := c
    clear hb
    go_wp2_with fail
    refine (C1 _).out.mono ?_
    rintro e W1 ⟨rfl, hb⟩
    clear g0 g1 g2 g3
    replace hbox := hbox.keep hb
    replace hB := below_step hB hb
    have c := hbox
    obtain ⟨g0, g1, g2, g3⟩ := c
    clear hb
    go_wp2_with fail
    refine (C2 _ hB).out.mono ?_
    rintro e W2 ⟨rfl, hb⟩
    clear g0 g1 g2 g3
    replace hbox := hbox.keep hb
    replace hB := below_step hB hb
    have c := hbox
    obtain ⟨g0, g1, g2, g3⟩ := c
    clear hb
    go_wp2_with fail
    refine (C3 _ hB).out.mono ?_
    rintro e W3 ⟨rfl, hb⟩
    clear g0 g1 g2 g3
    replace hbox := hbox.keep hb
    replace hB := below_step hB hb
    have c := hbox
    obtain ⟨g0, g1, g2, g3⟩ := c
    clear hb
    go_wp2_with fail
    refine (C4 _).out.mono ?_
    rintro e W4 ⟨rfl, hb⟩
    clear g0 g1 g2 g3
    replace hbox := hbox.keep hb
    replace hB := below_step hB hb
    have c := hbox
    obtain ⟨g0, g1, g2, g3⟩ := c
    clear hb
    go_wp2_with fail
    refine (C5 _).out.mono ?_
    rintro e W5 ⟨rfl, hb⟩
    clear g0 g1 g2 g3
    replace hbox := hbox.keep hb
    replace hB := below_step hB hb
    have c := hbox
    obtain ⟨g0, g1, g2, g3⟩ := c
    clear hb
    have d0 : W5.drew.cell? ⟨w.heap.size, 0, none⟩ = some (.int .i64 x) := g0
    have d1 : W5.drew.cell? ⟨w.heap.size, 1, none⟩ = some (.int .i64 y) := g1
    have hBd := below_drew hB
    go_wp2_with fail
    clear g0 g1 g2 g3 hbox
    go_region_held3 (fun w' => w'.cell? ⟨w.heap.size, 0, none⟩ = some (.int .i64 x) ∧ w'.cell? ⟨w.heap.size, 1, none⟩ = some (.int .i64 y) ∧ Below w.heap.size w w') (first | exact ⟨by assumption, by assumption, by assumption⟩) (first | (go_at_call 25; refine (C6 _).out.mono ?_; rintro e w' ⟨rfl, hb⟩; have k0 := kept hb (B := w.heap.size) (i := 0) (v := .int .i64 x) (by assumption); have k1 := kept hb (B := w.heap.size) (i := 1) (v := .int .i64 y) (by assumption); have kB : Below w.heap.size w w' := below_step (by assumption) hb; clear hb) | (go_at_call 26; refine (C7 _).out.mono ?_; rintro e w' ⟨rfl, hb⟩; have k0 := kept hb (B := w.heap.size) (i := 0) (v := .int .i64 x) (by assumption); have k1 := kept hb (B := w.heap.size) (i := 1) (v := .int .i64 y) (by assumption); have kB : Below w.heap.size w w' := below_step (by assumption) hb; clear hb))
    all_goals
      go_wp2
      go_ret
      exact ⟨rfl, by assumption⟩
end Go.Proofs.Ythnpacnmghlkmaa
