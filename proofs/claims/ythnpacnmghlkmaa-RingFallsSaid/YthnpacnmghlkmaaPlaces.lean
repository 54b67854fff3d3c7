/- The walk of RingPlaces: places, steps, and what lies between, are the document's. -/
import Derived.Test.YthnpacnmghlkmaaPlain
import Derived.Lib.Hide
import Derived.OpenShut
namespace Go.Proofs.Ythnpacnmghlkmaa
open Go.RowKit Go.Proofs.Ythnpacnmghlkmaa.Px Go.Proofs.YthnpacnmghlkmaaW.PrintWords Go.Proofs.YthnpacnmghlkmaaW.PrintLast

/-- The cells of a boxed array of whole numbers. -/
def Boxed3 (w : World) (B : Nat) (x y z : Int) : Prop := w.cell? ⟨B, 0, none⟩ = some (.int .i64 x) ∧ w.cell? ⟨B, 1, none⟩ = some (.int .i64 y) ∧ w.cell? ⟨B, 2, none⟩ = some (.int .i64 z)
theorem Boxed3.keep {w w1 : World} {B : Nat} {x y z : Int} (h : Boxed3 w B x y z) (hb : Below w.heap.size w w1) : Boxed3 w1 B x y z :=
  ⟨(hb.cell (World.block_lt_of_cell? w _ h.1)).trans h.1, (hb.cell (World.block_lt_of_cell? w _ h.2.1)).trans h.2.1, (hb.cell (World.block_lt_of_cell? w _ h.2.2)).trans h.2.2⟩
theorem Boxed3.new (w : World) (x y z : Int) (t : TypeId) : Boxed3 (w.alloc (.cells #[.int .i64 x, .int .i64 y, .int .i64 z] t)) w.heap.size x y z := by
  refine ⟨?_, ?_, ?_⟩ <;> rw [cell_of_row _ _ _ _ _ _ (heap_alloc_new w _)] <;> rfl

/-! What the functions come to, as contracts. -/
theorem place_at (a n : Int) (w : World) (h : 1 ≤ n ∧ n ≤ 1048576) : Calls Try.prog 12 #[.int .i64 a, .int .i64 n] w fun e w' => e = .returned (.tuple #[.int .i64 (a % n), .int .i64 0]) ∧ Below w.heap.size w w' :=
  ring_Place.calls 2 a n _ _ w (by rw [place_eq 2 a n (by omega), if_pos h])
theorem steps_at (a b n : Int) (w : World) (h : 1 ≤ n ∧ n ≤ 1048576) : Calls Try.prog 13 #[.int .i64 a, .int .i64 b, .int .i64 n] w fun e w' => e = .returned (.tuple #[.int .i64 ((b - a) % n), .int .i64 0]) ∧ Below w.heap.size w w' :=
  ring_Steps.calls 2 a b n _ _ w (by rw [steps_eq 2 a b n (by omega), if_pos h])
theorem within_at (a x b n : Int) (w : World) (h : 1 ≤ n ∧ n ≤ 1048576) : Calls Try.prog 14 #[.int .i64 a, .int .i64 x, .int .i64 b, .int .i64 n] w fun e w' => e = .returned (.tuple #[.bool (decide ((x - a) % n ≤ (b - a) % n)), .int .i64 0]) ∧ Below w.heap.size w w' :=
  ring_Within.calls 2 a x b n _ _ w (by rw [within_eq 2 a x b n (by omega), if_pos h])
theorem place_no (a n : Int) (w : World) (h : ¬ (1 ≤ n ∧ n ≤ 1048576)) : Calls Try.prog 12 #[.int .i64 a, .int .i64 n] w fun e w' => e = .returned (.tuple #[.int .i64 0, .int .i64 130]) ∧ Below w.heap.size w w' :=
  ring_Place.calls 2 a n _ _ w (by rw [place_eq 2 a n (by omega), if_neg h])
theorem steps_no (a b n : Int) (w : World) (h : ¬ (1 ≤ n ∧ n ≤ 1048576)) : Calls Try.prog 13 #[.int .i64 a, .int .i64 b, .int .i64 n] w fun e w' => e = .returned (.tuple #[.int .i64 0, .int .i64 130]) ∧ Below w.heap.size w w' :=
  ring_Steps.calls 2 a b n _ _ w (by rw [steps_eq 2 a b n (by omega), if_neg h])
theorem within_no (a x b n : Int) (w : World) (h : ¬ (1 ≤ n ∧ n ≤ 1048576)) : Calls Try.prog 14 #[.int .i64 a, .int .i64 x, .int .i64 b, .int .i64 n] w fun e w' => e = .returned (.tuple #[.bool false, .int .i64 130]) ∧ Below w.heap.size w w' :=
  ring_Within.calls 2 a x b n _ _ w (by rw [within_eq 2 a x b n (by omega), if_neg h])
theorem refMay_at (n : Int) (w : World) (b : Bool) (h : decide (1 ≤ n ∧ n ≤ 1048576) = b) : Calls Try.prog 11 #[.slice none 0 0, .int .i64 n] w fun e w' => e = .returned (.bool b) ∧ Below w.heap.size w w' :=
  (rotaref13_May.calls 2 none 0 [] n b w (Kd.C_nil _ _) (Nat.le_refl _) (by rw [refMay_nil 2 n (by omega), h])).mono fun _ _ ⟨h1, h2⟩ => ⟨h1, h2.below⟩
theorem refPlace_at (a n : Int) (w : World) (h : 1 ≤ n ∧ n ≤ 1048576) : Calls Try.prog 15 #[.int .i64 a, .int .i64 n] w fun e w' => e = .returned (.int .i64 (a % n)) ∧ Below w.heap.size w w' :=
  (rotaref13_Place.calls a n _ w (refPlace_eq a n h.1 (by omega))).mono fun _ _ ⟨h1, h2⟩ => ⟨h1, h2.below⟩
theorem refSteps_at (a b n : Int) (w : World) (h : 1 ≤ n ∧ n ≤ 1048576) : Calls Try.prog 16 #[.int .i64 a, .int .i64 b, .int .i64 n] w fun e w' => e = .returned (.int .i64 ((b - a) % n)) ∧ Below w.heap.size w w' :=
  (rotaref13_Steps.calls a b n _ w (refSteps_eq a b n h.1 h.2)).mono fun _ _ ⟨h1, h2⟩ => ⟨h1, h2.below⟩
theorem refWithin_at (a x b n : Int) (w : World) (h : 1 ≤ n ∧ n ≤ 1048576) : Calls Try.prog 17 #[.int .i64 a, .int .i64 x, .int .i64 b, .int .i64 n] w fun e w' => e = .returned (.bool (decide ((x - a) % n ≤ (b - a) % n))) ∧ Below w.heap.size w w' :=
  (rotaref13_Within.calls (n.toNat + 1) a x b n _ w (refWithin_eq _ a x b n h.1 h.2 (by omega))).mono fun _ _ ⟨h1, h2⟩ => ⟨h1, h2.below⟩

set_option maxRecDepth 100000 in
set_option maxHeartbeats 800000 in
theorem ringPlaces_yes (w : World) (x y z n : Int) (hn : 1 ≤ n ∧ n ≤ 1048576) (h5 : ¬ 5000 < n) :
    Calls Try.prog 3 #[.agg #[.int .i64 x, .int .i64 y, .int .i64 z], .int .i64 n] w fun e w' => e = .returned (.bool true) ∧ Below w.heap.size w w' := by
  have HN := Lib.hid hn
  have hmay : decide (1 ≤ n ∧ n ≤ 1048576) = true := decide_eq_true hn
  have HM := Lib.hid hmay
  clear hmay hn
  have hbox := Boxed3.new w x y z 22
  have hB := (Below.refl w.heap.size w).alloc (Nat.le_refl _) (.cells #[.int .i64 x, .int .i64 y, .int .i64 z] 22)
  obtain ⟨p, hp⟩ : ∃ p, x % n = p := ⟨_, rfl⟩
  obtain ⟨s, hs⟩ : ∃ s, (y - x) % n = s := ⟨_, rfl⟩
  obtain ⟨q, hq⟩ : ∃ q, decide ((y - x) % n ≤ (z - x) % n) = q := ⟨_, rfl⟩
  have HP := Lib.hid hp
  have HS := Lib.hid hs
  have HQ := Lib.hid hq
  rw [hs] at hq
  have C1 := fun W => Lib.hid (refMay_at n W true HM.out)
  have C2 := fun W => Lib.hid (place_at x n W HN.out)
  have C3 := fun W => Lib.hid (steps_at x y n W HN.out)
  have C4 := fun W => Lib.hid (within_at x y z n W HN.out)
  have C5 := fun W => Lib.hid (refPlace_at x n W HN.out)
  have C6 := fun W => Lib.hid (refSteps_at x y n W HN.out)
  have C7 := fun W => Lib.hid (refWithin_at x y z n W HN.out)
  simp only [hp, hs, hq] at C2 C3 C4 C5 C6 C7
  clear hp hs hq
  go_enter Try.func3, Try.ntmps3
  go_wp2_with fail
  refine (C1 _).out.mono ?_
  rintro e W1 ⟨rfl, hb⟩
  replace hbox := hbox.keep hb
  replace hB := below_step hB hb
  have c := hbox
  obtain ⟨c0, c1, c2⟩ := c
  clear hb
  go_wp2_with fail
  refine (C2 _).out.mono ?_
  rintro e W2 ⟨rfl, hb⟩
  clear c0 c1 c2
  replace hbox := hbox.keep hb
  replace hB := below_step hB hb
  have c := hbox
  obtain ⟨c0, c1, c2⟩ := c
  clear hb
  go_wp2_with fail
  refine (C3 _).out.mono ?_
  rintro e W3 ⟨rfl, hb⟩
  clear c0 c1 c2
  replace hbox := hbox.keep hb
  replace hB := below_step hB hb
  have c := hbox
  obtain ⟨c0, c1, c2⟩ := c
  clear hb
  go_wp2_with fail
  refine (C4 _).out.mono ?_
  rintro e W4 ⟨rfl, hb⟩
  clear c0 c1 c2
  replace hbox := hbox.keep hb
  replace hB := below_step hB hb
  have c := hbox
  obtain ⟨c0, c1, c2⟩ := c
  clear hb
  go_wp2_with fail
  refine (C5 _).out.mono ?_
  rintro e W5 ⟨rfl, hb⟩
  clear c0 c1 c2
  replace hbox := hbox.keep hb
  replace hB := below_step hB hb
  have c := hbox
  obtain ⟨c0, c1, c2⟩ := c
  clear hb
  go_wp2_with fail
  refine (C6 _).out.mono ?_
  rintro e W6 ⟨rfl, hb⟩
  clear c0 c1 c2
  replace hbox := hbox.keep hb
  replace hB := below_step hB hb
  have c := hbox
  obtain ⟨c0, c1, c2⟩ := c
  clear hb
  go_wp2_with fail
  refine (C7 _).out.mono ?_
  rintro e W7 ⟨rfl, hb⟩
  clear c0 c1 c2
  replace hbox := hbox.keep hb
  replace hB := below_step hB hb
  have c := hbox
  obtain ⟨c0, c1, c2⟩ := c
  clear hb
  go_wp2
  go_ret
  exact ⟨rfl, hB⟩

set_option maxRecDepth 100000 in
set_option maxHeartbeats 800000 in
theorem ringPlaces_no (w : World) (x y z n : Int) (hn : ¬ (1 ≤ n ∧ n ≤ 1048576)) (h5 : ¬ 5000 < n ∨ ¬ n ≤ 1048576) (h51 : (¬ 5000 < n ∧ n ≤ 1048576) ∨ (5000 < n ∧ ¬ n ≤ 1048576)) :
    Calls Try.prog 3 #[.agg #[.int .i64 x, .int .i64 y, .int .i64 z], .int .i64 n] w fun e w' => e = .returned (.bool true) ∧ Below w.heap.size w w' := by
  have HN := Lib.hid hn
  have hmay : decide (1 ≤ n ∧ n ≤ 1048576) = false := decide_eq_false hn
  have HM := Lib.hid hmay
  clear hmay hn h5
  have hbox := Boxed3.new w x y z 22
  have hB := (Below.refl w.heap.size w).alloc (Nat.le_refl _) (.cells #[.int .i64 x, .int .i64 y, .int .i64 z] 22)
  have C1 := fun W => Lib.hid (refMay_at n W false HM.out)
  have C2 := fun W => Lib.hid (place_no x n W HN.out)
  have C3 := fun W => Lib.hid (steps_no x y n W HN.out)
  have C4 := fun W => Lib.hid (within_no x y z n W HN.out)
  rcases h51 with ⟨h5, h6⟩ | ⟨h5, h6⟩
  all_goals
    go_enter Try.func3, Try.ntmps3
    go_wp2_with fail
    refine (C1 _).out.mono ?_
    rintro e W1 ⟨rfl, hb⟩
    skip
    replace hbox := hbox.keep hb
    replace hB := below_step hB hb
    have c := hbox
    obtain ⟨c0, c1, c2⟩ := c
    clear hb
    go_wp2_with fail
    refine (C2 _).out.mono ?_
    rintro e W2 ⟨rfl, hb⟩
    clear c0 c1 c2
    replace hbox := hbox.keep hb
    replace hB := below_step hB hb
    have c := hbox
    obtain ⟨c0, c1, c2⟩ := c
    clear hb
    go_wp2_with fail
    refine (C3 _).out.mono ?_
    rintro e W3 ⟨rfl, hb⟩
    clear c0 c1 c2
    replace hbox := hbox.keep hb
    replace hB := below_step hB hb
    have c := hbox
    obtain ⟨c0, c1, c2⟩ := c
    clear hb
    go_wp2_with fail
    refine (C4 _).out.mono ?_
    rintro e W4 ⟨rfl, hb⟩
    clear c0 c1 c2
    replace hbox := hbox.keep hb
    replace hB := below_step hB hb
    have c := hbox
    obtain ⟨c0, c1, c2⟩ := c
    clear hb
    go_wp2
    go_ret
    exact ⟨rfl, hB⟩

set_option maxRecDepth 100000 in
theorem ringPlaces_walk (w : World) (x : Int) (_wx : (Lit.int .i64 x).wf = true) (y : Int) (_wy : (Lit.int .i64 y).wf = true) (z : Int) (_wz : (Lit.int .i64 z).wf = true) (n : Int) (_wn : (Lit.int .i64 n).wf = true) :
    Calls Try.prog 3 #[.agg #[.int .i64 x, .int .i64 y, .int .i64 z], .int .i64 n] w fun e w' => e = .returned (.bool true) ∧ Below w.heap.size w w' := by
  by_cases hbig : 5000 < n ∧ n ≤ 1048576
  · obtain ⟨h1, h2⟩ := hbig
    have hB := (Below.refl w.heap.size w).alloc (Nat.le_refl _) (.cells #[.int .i64 x, .int .i64 y, .int .i64 z] 22)
    go_enter Try.func3, Try.ntmps3
    go_wp2
    go_ret
    exact ⟨rfl, hB⟩
  · by_cases hn : 1 ≤ n ∧ n ≤ 1048576
    · exact ringPlaces_yes w x y z n hn (by omega)
    · exact ringPlaces_no w x y z n hn (by omega) (by omega)
end Go.Proofs.Ythnpacnmghlkmaa
