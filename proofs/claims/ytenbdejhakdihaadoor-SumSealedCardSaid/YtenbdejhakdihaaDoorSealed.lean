/- The walk of SumSealed: bytes with their sum behind have one sum all alike; with another number behind another one. -/
import Derived.Test.YtenbdejhakdihaaDoorParts
namespace Go.Proofs.YtenbdejhakdihaaDoor
open Go.RowKit Go.Proofs.YtenbdejhakdihaaDoorW.PrintWords Go.Proofs.YtenbdejhakdihaaDoorW.PrintLast

/-- The four bytes of a number, the lowest first. -/
def four (n : Nat) : List Int := [((n % 256 : Nat) : Int), ((n / 256 % 256 : Nat) : Int), ((n / 65536 % 256 : Nat) : Int), ((n / 16777216 % 256 : Nat) : Int)]
theorem four_bytes (n : Nat) : ∀ x ∈ four n, 0 ≤ x ∧ x < 256 := by
  intro x hx
  simp only [four, List.mem_cons, List.not_mem_nil, or_false] at hx
  rcases hx with rfl | rfl | rfl | rfl <;> omega
theorem four_big (n : Nat) (hn : n < 4294967296) : Crc.big ((four n).map Int.toNat) = n := by
  simp only [four, List.map_cons, List.map_nil, Int.toNat_natCast, Crc.big]
  omega
theorem more_four (s n : Nat) (hn : n < 4294967296) : more s (four n) = 4294967295 ^^^ Crc.stepN 32 (4294967295 ^^^ s ^^^ n) := by
  unfold more
  rw [Crc.crc_feed _ _ (fun c hc => by
    obtain ⟨x, hx, rfl⟩ := List.mem_map.1 hc
    have := four_bytes n x hx
    omega), four_big n hn]
  rw [show 8 * ((four n).map Int.toNat).length = 32 from rfl, Crc.feed_eq 32 _ _ hn]
theorem sealed (s : Nat) (hs : s < 4294967296) : more s (four s) = 558161692 := by
  rw [more_four s s hs, Nat.xor_assoc, Nat.xor_self, Nat.xor_zero]
  decide +kernel
theorem unsealed (s n : Nat) (hs : s < 4294967296) (hn : n < 4294967296) : (more s (four n) = 558161692) ↔ n = s := by
  constructor
  · intro h
    rw [← sealed s hs, more_four s n hn, more_four s s hs] at h
    have h1 := congrArg (fun z => 4294967295 ^^^ z) h
    simp only [xor_twice] at h1
    have h2 : Crc.stepN 32 ((4294967295 ^^^ s ^^^ n) ^^^ (4294967295 ^^^ s ^^^ s)) = 0 := by rw [Crc.stepN_xor, h1, Nat.xor_self]
    have hx : (4294967295 ^^^ s ^^^ n) ^^^ (4294967295 ^^^ s ^^^ s) = n ^^^ s := by
      rw [Crc.four (4294967295 ^^^ s) n (4294967295 ^^^ s) s, Nat.xor_self, Nat.zero_xor]
    rw [hx] at h2
    exact Crc.xor_eq_zero (Crc.stepN_eq_zero 32 _ (Nat.xor_lt_two_pow (n := 32) hn hs) h2)
  · rintro rfl
    exact sealed n hn

set_option maxHeartbeats 400000 in
theorem seal_calls (n : Nat) (_hn : n < 4294967296) (w : World) : Calls Tryd.prog 14 #[.int .u32 n] w fun e w' => e = .returned (.slice (some ⟨w.heap.size, 0, none⟩) 4 4) ∧ w.alloc (.cells ((four n).map (Value.int .u8)).toArray 5) = w' := by
  have e1 : IntKind.u8.wrap (n : Int) = ((n % 256 : Nat) : Int) := by rw [IntKind.wrap_u8]; omega
  have e2 : IntKind.u8.wrap ((n : Int) / 256) = ((n / 256 % 256 : Nat) : Int) := by rw [IntKind.wrap_u8]; omega
  have e3 : IntKind.u8.wrap ((n : Int) / 65536) = ((n / 65536 % 256 : Nat) : Int) := by rw [IntKind.wrap_u8]; omega
  have e4 : IntKind.u8.wrap ((n : Int) / 16777216) = ((n / 16777216 % 256 : Nat) : Int) := by rw [IntKind.wrap_u8]; omega
  have hfour : ((four n).map (Value.int .u8)).toArray = #[.int .u8 ((n % 256 : Nat) : Int), .int .u8 ((n / 256 % 256 : Nat) : Int), .int .u8 ((n / 65536 % 256 : Nat) : Int), .int .u8 ((n / 16777216 % 256 : Nat) : Int)] := rfl
  rw [hfour]
  generalize n % 256 = m1 at *
  generalize n / 256 % 256 = m2 at *
  generalize n / 65536 % 256 = m3 at *
  generalize n / 16777216 % 256 = m4 at *
  go_enter Tryd.func14, Tryd.ntmps14
  go_wp2
  go_ret
  exact ⟨rfl, rfl⟩

theorem more_new (s n z : Nat) (hs : s < 4294967296) (W : World) (hN : NibsAt W) (hz : more s (four n) = z) :
    Calls Tryd.prog 12 #[.int .u32 s, .slice (some ⟨W.heap.size, 0, none⟩) 4 4] (W.alloc (.cells ((four n).map (Value.int .u8)).toArray 5)) fun e w' => e = .returned (.int .u32 (z : Int)) ∧ W.alloc (.cells ((four n).map (Value.int .u8)).toArray 5) = w' := by
  subst hz
  exact more_calls s _ _ 4 (four n) (C_new .u8 W (four n) 5 (0, 0) (by simp [four])) hs (by simp [four]) (by simp [four]) (hN.below ((Below.refl _ _).alloc (Nat.le_refl _) _)) (four_bytes n)

set_option maxHeartbeats 400000 in
theorem sumSealed_walk (w : World) (A0 : Option Addr) (c0 : Nat) (l0 : List Int) (hr0 : Kd.C (Kd.int .u8) w A0 l0.length l0) (hc0 : l0.length ≤ c0) (hl0 : l0.length * 1 ≤ 140737488351232) (hw0 : ∀ x ∈ l0, (Lit.int .u8 x).wf = true)
    (a1 : Int) (w1 : (Lit.int .u32 a1).wf = true) (hN : NibsAt w) :
    Calls Tryd.prog 6 #[.slice A0 l0.length c0, .int .u32 a1] w fun e w' => e = .returned (.bool true) ∧ Below w.heap.size w w' := by
  have HA := Lib.hid (alive_calls w hN)
  obtain ⟨b1, b1'⟩ := bounds_u32 w1
  obtain ⟨o, rfl⟩ := Int.eq_ofNat_of_zero_le b1
  have ho : o < 4294967296 := by omega
  rw [Nat.mul_one] at hl0
  have HR := Lib.hid hr0
  have HW := Lib.hid (bytes_wf hw0)
  have HN := Lib.hid hN
  clear hr0 hw0 hN w1 b1 b1'
  by_cases hbig : (100000 : Int) < (l0.length : Int)
  · go_enter Tryd.func6, Tryd.ntmps6
    go_wp2_with fail
    refine HA.out.mono ?_
    rintro e w' ⟨rfl, hb⟩
    go_wp2
    go_ret
    exact ⟨rfl, hb⟩
  · go_enter Tryd.func6, Tryd.ntmps6
    go_wp2_with fail
    refine HA.out.mono ?_
    rintro e w' ⟨rfl, hb⟩
    go_wp2_with fail
    refine (sum_calls _ _ _ _ (Kd.C_below HR.out hb) hc0 (by omega) (HN.out.below hb) HW.out).mono ?_
    rintro e w1 ⟨rfl, rfl⟩
    obtain ⟨s, hs⟩ : ∃ s, more 0 l0 = s := ⟨_, rfl⟩
    have hslt : s < 4294967296 := by rw [← hs]; exact more_lt _ _ (by decide) HW.out
    rw [hs]
    have HS := Lib.hid hs
    clear hs
    go_wp2_with fail
    refine (seal_calls s hslt _).mono ?_
    rintro e w1 ⟨rfl, rfl⟩
    go_wp2_with fail
    have hN := HN.out.below hb
    have hN2 : NibsAt (w'.alloc (.cells ((four s).map (Value.int .u8)).toArray 5)) := hN.below ((Below.refl _ _).alloc (Nat.le_refl _) _)
    have h4 := more_new s o (more s (four o)) hslt _ hN2 rfl
    rw [World.size_alloc] at h4
    have H4 := Lib.hid h4
    have h3 := seal_calls o ho (w'.alloc (.cells ((four s).map (Value.int .u8)).toArray 5))
    rw [World.size_alloc] at h3
    have H3 := Lib.hid h3
    have hlast : ((((more s (four o) : Nat) : Int) == 558161692) == ((o : Int) == (s : Int))) = true := by
      by_cases e : o = s
      · have := (unsealed s o hslt ho).2 e
        rw [this, e]; simp
      · have h1 : ¬ more s (four o) = 558161692 := fun h => e ((unsealed s o hslt ho).1 h)
        rw [beq_eq_false_iff_ne.2 (show ((more s (four o) : Nat) : Int) ≠ 558161692 by omega), beq_eq_false_iff_ne.2 (show (o : Int) ≠ (s : Int) by omega)]
        rfl
    refine (more_new s s 558161692 hslt _ hN (sealed s hslt)).mono ?_
    clear hN hN2 h4 h3
    rintro e w1 ⟨rfl, rfl⟩
    go_wp2_with fail
    refine H3.out.mono ?_
    rintro e w1 ⟨rfl, rfl⟩
    go_wp2_with fail
    refine H4.out.mono ?_
    rintro e w1 ⟨rfl, rfl⟩
    have hb2 := (hb.alloc hb.size (.cells ((four s).map (Value.int .u8)).toArray 5)).alloc (by have := hb.size; simp; omega) (.cells ((four o).map (Value.int .u8)).toArray 5)
    go_wp2
    go_ret
    exact ⟨rfl, hb2⟩
end Go.Proofs.YtenbdejhakdihaaDoor
