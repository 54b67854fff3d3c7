/- The walk of RingRound: steps there and back are nothing, or the whole ring; steps on and on are the steps of the whole; a place that is so many steps on is come to by them. -/
import Derived.Test.YthnpacnmghlkmaaPlaces
namespace Go.Proofs.Ythnpacnmghlkmaa
open Go.RowKit Go.Proofs.Ythnpacnmghlkmaa.Px Go.Proofs.YthnpacnmghlkmaaW.PrintWords Go.Proofs.YthnpacnmghlkmaaW.PrintLast

theorem alive_at (w : World) : Calls Try.prog 18 #[] w fun e w' => e = .returned (.bool true) ∧ Below w.heap.size w w' :=
  rotalaw13_alive.calls 2 true w (by
    unfold rotalaw13_alive.f
    rw [place_eq 2 (-1) 5 (by omega), steps_eq 2 4 1 5 (by omega), within_eq 2 4 0 1 5 (by omega), within_eq 2 1 0 4 5 (by omega)]
    decide)

set_option maxRecDepth 100000 in
set_option maxHeartbeats 1600000 in
theorem ringRound_go (w : World) (x y z m s ab ba bc ac a b : Int) (q t1 t2 : Bool) (hs : 1 ≤ s) (hs2 : s ≤ 5000) (hm0 : 0 ≤ m) (hm1 : m ≤ 65535) (hms : Hid (1 + m % 5000 = s))
    (hab : Hid ((y - x) % s = ab)) (hba : Hid ((x - y) % s = ba)) (hbc : Hid ((z - y) % s = bc)) (hac : Hid ((z - x) % s = ac)) (ha : Hid (x % s = a)) (hb : Hid (y % s = b)) (hon : Hid ((a + ab) % s = b)) (hq : Hid (decide ((y - x) % s ≤ (z - x) % s) = q))
    (b1 : 0 ≤ ab) (b2 : ab < s) (b3 : 0 ≤ ba) (b4 : ba < s) (b5 : 0 ≤ bc) (b6 : bc < s) (b7 : 0 ≤ ac) (b8 : ac < s) (b9 : 0 ≤ a) (b10 : a < s) 
    (f1 : (ab + ba != 0) = t1) (f2 : (ab + ba != s) = t2) (f3 : (ab + bc) % s = ac) (f4 : decide (ab ≤ ac) = q) (f5 : (ab + bc == ac) = q) (f6 : t1 = false ∨ t1 = true ∧ t2 = false) :
    Calls Try.prog 4 #[.agg #[.int .i64 x, .int .i64 y, .int .i64 z], .int .u16 m] w fun e w' => e = .returned (.bool true) ∧ Below w.heap.size w w' := by
  have hok : 1 ≤ s ∧ s ≤ 1048576 := by omega
  have HN := Lib.hid hok
  clear hok
  have hbox := Boxed3.new w x y z 22
  have hB := (Below.refl w.heap.size w).alloc (Nat.le_refl _) (.cells #[.int .i64 x, .int .i64 y, .int .i64 z] 22)
  have C0 := fun W => Lib.hid (alive_at W)
  have C1 := fun W => steps_at x y s W HN.out
  have C2 := fun W => steps_at y x s W HN.out
  have C3 := fun W => steps_at y z s W HN.out
  have C4 := fun W => steps_at x z s W HN.out
  have C5 := fun W => place_at x s W HN.out
  have C6 := fun W => place_at y s W HN.out
  have C7 := fun W => place_at (a + ab) s W HN.out
  have C8 := fun W => within_at x y z s W HN.out
  rw [hq.out] at C8
  rw [hab.out] at C1
  rw [hba.out] at C2
  rw [hbc.out] at C3
  rw [hac.out] at C4
  rw [ha.out] at C5
  rw [hb.out] at C6
  rw [hon.out] at C7
  replace C1 := fun W => Lib.hid (C1 W)
  replace C2 := fun W => Lib.hid (C2 W)
  replace C3 := fun W => Lib.hid (C3 W)
  replace C4 := fun W => Lib.hid (C4 W)
  replace C5 := fun W => Lib.hid (C5 W)
  replace C6 := fun W => Lib.hid (C6 W)
  replace C7 := fun W => Lib.hid (C7 W)
  replace C8 := fun W => Lib.hid (C8 W)
  have hsz := hms.out
  clear hab hba hbc hac ha hb hon hq hms
  rcases f6 with rfl | ⟨rfl, rfl⟩
  all_goals
    go_enter Try.func4, Try.ntmps4
    go_wp2_with fail
    refine (C0 _).out.mono ?_
    rintro e W0 ⟨rfl, hb⟩
    skip
    replace hbox := hbox.keep hb
    replace hB := below_step hB hb
    have c := hbox
    obtain ⟨c0, c1, c2⟩ := c
    clear hb
    go_wp2_with fail
    refine (C1 _).out.mono ?_
    rintro e W1 ⟨rfl, hb⟩
    clear c0 c1 c2
    replace hbox := hbox.keep hb
    replace hB := below_step hB hb
    have c := hbox
    obtain ⟨c0, c1, c2⟩ := c
    clear hb
    go_wp2_with fail
    refine (C2 _).out.mono ?_
    rintro e W2 ⟨rfl, hb⟩
    clear c0 c1 c2
    replace hbox := hbox.keep hb
    replace hB := below_step hB hb
    have c := hbox
    obtain ⟨c0, c1, c2⟩ := c
    clear hb
    go_wp2_with fail
    refine (C3 _).out.mono ?_
    rintro e W3 ⟨rfl, hb⟩
    clear c0 c1 c2
    replace hbox := hbox.keep hb
    replace hB := below_step hB hb
    have c := hbox
    obtain ⟨c0, c1, c2⟩ := c
    clear hb
    go_wp2_with fail
    refine (C4 _).out.mono ?_
    rintro e W4 ⟨rfl, hb⟩
    clear c0 c1 c2
    replace hbox := hbox.keep hb
    replace hB := below_step hB hb
    have c := hbox
    obtain ⟨c0, c1, c2⟩ := c
    clear hb
    go_wp2_with fail
    refine (C5 _).out.mono ?_
    rintro e W5 ⟨rfl, hb⟩
    clear c0 c1 c2
    replace hbox := hbox.keep hb
    replace hB := below_step hB hb
    have c := hbox
    obtain ⟨c0, c1, c2⟩ := c
    clear hb
    go_wp2_with fail
    refine (C6 _).out.mono ?_
    rintro e W6 ⟨rfl, hb⟩
    clear c0 c1 c2
    replace hbox := hbox.keep hb
    replace hB := below_step hB hb
    have c := hbox
    obtain ⟨c0, c1, c2⟩ := c
    clear hb
    go_wp2_with fail
    refine (C7 _).out.mono ?_
    rintro e W7 ⟨rfl, hb⟩
    clear c0 c1 c2
    replace hbox := hbox.keep hb
    replace hB := below_step hB hb
    have c := hbox
    obtain ⟨c0, c1, c2⟩ := c
    clear hb
    go_wp2_with fail
    refine (C8 _).out.mono ?_
    rintro e W8 ⟨rfl, hb⟩
    clear c0 c1 c2
    replace hbox := hbox.keep hb
    replace hB := below_step hB hb
    have c := hbox
    obtain ⟨c0, c1, c2⟩ := c
    clear hb
    go_wp2
    go_ret
    exact ⟨rfl, hB⟩

set_option maxRecDepth 100000 in
theorem ringRound_walk (w : World) (x : Int) (_wx : (Lit.int .i64 x).wf = true) (y : Int) (_wy : (Lit.int .i64 y).wf = true) (z : Int) (_wz : (Lit.int .i64 z).wf = true) (m : Int) (wm : (Lit.int .u16 m).wf = true) :
    Calls Try.prog 4 #[.agg #[.int .i64 x, .int .i64 y, .int .i64 z], .int .u16 m] w fun e w' => e = .returned (.bool true) ∧ Below w.heap.size w w' := by
  have bm := bounds_u16 wm
  have hs : 1 ≤ 1 + m % 5000 ∧ 1 + m % 5000 ≤ 5000 := by omega
  obtain ⟨s, hse⟩ : ∃ s, 1 + m % 5000 = s := ⟨_, rfl⟩
  rw [hse] at hs
  have md := fun v : Int => And.intro (Int.emod_nonneg v (show s ≠ 0 by omega)) (Int.emod_lt_of_pos v (show 0 < s by omega))
  have mx := md x
  have my := md y
  have mz := md z
  have e1 := sub_mod x y s hs.1
  have e2 := sub_mod y x s hs.1
  have e3 := sub_mod y z s hs.1
  have e4 := sub_mod x z s hs.1
  have mab := md (y - x)
  have mba := md (x - y)
  have mbc := md (z - y)
  have mac := md (z - x)
  have hon : (x % s + (y - x) % s) % s = y % s := by rw [← Int.add_emod]; congr 1; omega
  have f3 : ((y - x) % s + (z - y) % s) % s = (z - x) % s := by rw [← Int.add_emod]; congr 1; omega
  refine ringRound_go w x y z m s _ _ _ _ _ _ (decide ((y - x) % s ≤ (z - x) % s)) _ _ hs.1 hs.2 bm.1 bm.2 (Lib.hid hse) (Lib.hid rfl) (Lib.hid rfl) (Lib.hid rfl) (Lib.hid rfl) (Lib.hid rfl) (Lib.hid rfl) (Lib.hid hon) (Lib.hid rfl) mab.1 mab.2 mba.1 mba.2 mbc.1 mbc.2 mac.1 mac.2 mx.1 mx.2 rfl rfl f3 rfl ?_ ?_
  · clear f3 hon mab mba mbc mac md
    by_cases h : (y - x) % s ≤ (z - x) % s
    · rw [decide_eq_true h, beq_iff_eq]
      split at e1 <;> split at e3 <;> split at e4 <;> omega
    · rw [decide_eq_false h, beq_eq_false_iff_ne]
      split at e1 <;> split at e3 <;> split at e4 <;> omega
  · by_cases h : (y - x) % s + (x - y) % s = 0
    · left; rw [bne_eq_false_iff_eq]; exact h
    · right
      refine ⟨bne_iff_ne.2 h, ?_⟩
      rw [bne_eq_false_iff_eq]
      split at e1 <;> split at e2 <;> omega
end Go.Proofs.Ythnpacnmghlkmaa
