/- What the document's May, Slot, Verdict, Plan, Through, Ints answer: what guard's own do. -/
import Derived.Test.YtloibbfihkfeeaaRK
import Derived.Test.YtloibbfihkfeeaaSM
import Derived.Test.YtloibbfihkfeeaaGOp
namespace Go.Proofs.Ytloibbfihkfeeaa
set_option linter.unusedVariables false
set_option linter.unusedSimpArgs false
open Go.RowKit Go.Shelf Go.Proofs.YtloibbfihkfeeaaW.PrintWords Go.Proofs.YtloibbfihkfeeaaW.PrintLast

theorem shotOk_of {x : Sh} (h1 : -1152921504606846976 ≤ x.f1) (h2 : x.f1 ≤ 1152921504606846976) (h3 : -1152921504606846976 ≤ x.f2) (h4 : x.f2 ≤ 1152921504606846976) : shotOk x = true := by
  rw [shotOk, Bool.and_eq_true, decide_eq_true_eq, decide_eq_true_eq]
  constructor
  · unfold mni; split <;> omega
  · unfold mxi; split <;> omega
theorem shotOk_no {x : Sh} (h : ¬ ((-1152921504606846976 ≤ x.f1 ∧ x.f1 ≤ 1152921504606846976) ∧ -1152921504606846976 ≤ x.f2 ∧ x.f2 ≤ 1152921504606846976)) : shotOk x = false := by
  cases hs : shotOk x with
  | false => rfl
  | true => exact absurd (shotOk_bd hs) h
set_option maxRecDepth 100000 in
set_option maxHeartbeats 4000000 in
theorem rmay_calls (A1 A8 A9 A10 A11 : Option Addr) (c1 c8 c9 c10 c11 : Nat) (C : S28) (w : World) (h : CfgIn w C A1 A8 A9 A10 A11 c1 c8 c9 c10 c11) (hC : CfgOk C) (hz : SzOk C) (length offset : Int) (A : Option Addr) (c : Nat) (l : List Sh) (hr : Kd.C k32 w A l.length l) :
    Calls Try.prog 16 #[.agg #[.int .i64 C.f0, .slice A1 C.f1.length c1, .int .i64 C.f2, .int .i64 C.f3, .int .i64 C.f4, .int .i64 C.f5, .int .i64 C.f6, .int .i64 C.f7, .slice A8 C.f8.length c8, .slice A9 C.f9.length c9, .slice A10 C.f10.length c10, .slice A11 C.f11.length c11], .int .i64 length, .int .i64 offset, .slice A l.length c] w fun x w' => x = .returned (.int .i64 (mayW C length offset l)) ∧ Below w.heap.size w w' := by
  have HR := Lib.hid h
  have HCO := Lib.hid hC
  have HSZ := Lib.hid hz
  have HS := Lib.hid hr
  have hl := hr.2.1
  have HB := Lib.hid (show Below w.heap.size w (w.alloc (Obj.cells #[.int .i64 C.f0, .slice A1 C.f1.length c1, .int .i64 C.f2, .int .i64 C.f3, .int .i64 C.f4, .int .i64 C.f5, .int .i64 C.f6, .int .i64 C.f7, .slice A8 C.f8.length c8, .slice A9 C.f9.length c9, .slice A10 C.f10.length c10, .slice A11 C.f11.length c11] 28)) from (Below.refl _ _).alloc (Nat.le_refl _) _)
  have H1 := Lib.hid (blk_new w (o := (Obj.cells #[.int .i64 C.f0, .slice A1 C.f1.length c1, .int .i64 C.f2, .int .i64 C.f3, .int .i64 C.f4, .int .i64 C.f5, .int .i64 C.f6, .int .i64 C.f7, .slice A8 C.f8.length c8, .slice A9 C.f9.length c9, .slice A10 C.f10.length c10, .slice A11 C.f11.length c11] 28)))
  clear h hC hz hr
  obtain ⟨b, hb⟩ : ∃ b, b = mayW C length offset l := ⟨_, rfl⟩
  rw [← hb]
  have HBB := Lib.hid hb
  clear hb
  obtain ⟨n, hn⟩ : ∃ n, n = checkN C := ⟨_, rfl⟩
  have HNN := Lib.hid hn
  clear hn
  go_enter Try.func16, Try.ntmps16
  go_wp2_with fail
  refine (rcheck_calls _ _ _ _ _ _ _ _ _ _ C _ (HR.out.below HB.out) HCO.out HSZ.out).mono ?_
  rintro e W1 ⟨rfl, hb⟩
  rw [← HNN.out]
  replace H1 := Lib.hid (blk_keep hb H1.out)
  replace HB := Lib.hid (below_step HB.out hb)
  clear hb
  by_cases h0 : n = 0
  case neg =>
    have hres := Lib.hid (show b = n by rw [HBB.out, mayW, ← HNN.out, if_pos h0])
    have e0 : (n != 0) = true := by simpa using h0
    clear h0
    go_wp2
    go_ret
    exact ⟨ret_int hres.out.symm, HB.out⟩
  obtain ⟨m0, m1⟩ := check_margin (C := C) (by rw [← HNN.out]; exact h0)
  subst h0
  have g4 := (cfg_cells H1.out).2.2.2.2.1
  have hbv := Lib.hid (show b = if length < 2 * C.f4 + 1 ∨ 16777216 < length then 200 else if offset < -1073741824 ∨ 1073741824 < offset then 2 else if l.all shotOk then 0 else 2 by
    rw [HBB.out, mayW, ← HNN.out, if_neg (by simp)])
  by_cases h2 : 16777216 < length
  · have hres := Lib.hid (show b = 200 by rw [hbv.out, if_pos (.inr h2)])
    go_wp2
    go_ret
    exact ⟨ret_int hres.out.symm, HB.out⟩
  by_cases h1 : length < 1
  · have hres := Lib.hid (show b = 200 by rw [hbv.out, if_pos (.inl (by omega))])
    go_wp2
    go_ret
    exact ⟨ret_int hres.out.symm, HB.out⟩
  have w1 : IntKind.i64.wrap (length - 1) = length - 1 := IntWalk.i64_in _ (by omega)
  have t1 : (length - 1).tdiv 2 = (length - 1) / 2 := Int.tdiv_eq_ediv_of_nonneg (by omega)
  have w2 : IntKind.i64.wrap ((length - 1) / 2) = (length - 1) / 2 := IntWalk.i64_in _ (by omega)
  by_cases h3 : (length - 1) / 2 < C.f4
  · have hres := Lib.hid (show b = 200 by rw [hbv.out, if_pos (.inl (by omega))])
    go_wp2
    go_ret
    exact ⟨ret_int hres.out.symm, HB.out⟩
  by_cases h4 : offset < -1073741824
  · have hres := Lib.hid (show b = 2 by rw [hbv.out, if_neg (by omega), if_pos (.inl h4)])
    go_wp2
    go_ret
    exact ⟨ret_int hres.out.symm, HB.out⟩
  by_cases h5 : 1073741824 < offset
  · have hres := Lib.hid (show b = 2 by rw [hbv.out, if_neg (by omega), if_pos (.inr h5)])
    go_wp2
    go_ret
    exact ⟨ret_int hres.out.symm, HB.out⟩
  have hbw := Lib.hid (show b = if l.all shotOk then 0 else 2 by rw [hbv.out, if_neg (by omega), if_neg (by omega)])
  clear hbv HBB
  go_wp2
  clear g4 w1 w2 t1
  go_loop [10] (fun i => ∃ k : Nat, k ≤ l.length ∧ i = .int .i64 k ∧ Hid ((l.take k).all shotOk = true)) (fun i => l.length - (intOf i).toNat)
  case atStart => exact ⟨0, by omega, rfl, Lib.hid (by simp)⟩
  case round =>
    obtain ⟨k, hk, rfl, HA⟩ := hrel
    by_cases hlt : k < l.length
    · obtain ⟨ad, p, e1, p0, p1, p2, HV⟩ := at_S (Kd.C_below HS.out HB.out) k hlt
      subst e1
      have hno := Lib.hid (show shotOk p = false → b = 2 from fun h => by rw [hbw.out, if_neg (all_cons_false HV.out h)])
      by_cases c1 : p.f1 < -1152921504606846976
      · have hres := Lib.hid (hno.out (shotOk_no (by omega)))
        go_wp2
        go_ret
        exact ⟨ret_int hres.out.symm, HB.out⟩
      by_cases c2 : 1152921504606846976 < p.f1
      · have hres := Lib.hid (hno.out (shotOk_no (by omega)))
        go_wp2
        go_ret
        exact ⟨ret_int hres.out.symm, HB.out⟩
      by_cases c3 : p.f2 < -1152921504606846976
      · have hres := Lib.hid (hno.out (shotOk_no (by omega)))
        go_wp2
        go_ret
        exact ⟨ret_int hres.out.symm, HB.out⟩
      by_cases c4 : 1152921504606846976 < p.f2
      · have hres := Lib.hid (hno.out (shotOk_no (by omega)))
        go_wp2
        go_ret
        exact ⟨ret_int hres.out.symm, HB.out⟩
      have HA2 := Lib.hid (all_take_succ HV.out HA.out (shotOk_of (by omega) (by omega) (by omega) (by omega)))
      go_wp2
      go_round
      case rel => exact ⟨k + 1, by omega, by go_num, HA2⟩
      case measure => simp [intOf]; omega
    · have hres := Lib.hid (show b = 0 by rw [hbw.out, if_pos (by have := HA.out; rwa [List.take_of_length_le (by omega)] at this)])
      go_wp2
      go_ret
      exact ⟨ret_int hres.out.symm, HB.out⟩
theorem lies_ref {length offset : Int} {x : Sh} (hl : 1 ≤ length) (h1 : x.f1 < x.f2) (h2 : 0 ≤ x.f1 + offset) : ((x.f1 + offset) / length + 1) * length < x.f2 + offset ↔ (x.f1 + offset) / length ≠ (x.f2 + offset - 1) / length := by
  have d1 : (x.f1 + offset) / length ≤ (x.f2 + offset - 1) / length := Int.ediv_le_ediv (by omega) (by omega)
  have d2 := Int.ediv_lt_iff_lt_mul (a := x.f2 + offset - 1) (b := (x.f1 + offset) / length + 1) (c := length) (by omega)
  generalize ((x.f1 + offset) / length + 1) * length = q at *
  omega
set_option maxHeartbeats 4000000 in
theorem rslot_calls (length offset : Int) (x : Sh) (w : World) (hl1 : 1 ≤ length) (hl2 : length ≤ 16777216) (ho1 : -1073741824 ≤ offset) (ho2 : offset ≤ 1073741824) (hx : shotOk x = true) :
    Calls Try.prog 17 #[.int .i64 length, .int .i64 offset, .agg #[.int .i64 x.f0, .int .i64 x.f1, .int .i64 x.f2]] w fun e w' => e = .returned (.int .i64 (liesW length offset x)) ∧ Below w.heap.size w w' := by
  obtain ⟨⟨b1, b2⟩, b3, b4⟩ := shotOk_bd hx
  have HB := Lib.hid (show Below w.heap.size w (w.alloc (Obj.cells #[.int .i64 x.f0, .int .i64 x.f1, .int .i64 x.f2] 32)) from (Below.refl _ _).alloc (Nat.le_refl _) _)
  obtain ⟨b, hb'⟩ : ∃ b, b = liesW length offset x := ⟨_, rfl⟩
  rw [← hb']
  have HBB := Lib.hid hb'
  have hl0 : (length == 0) = false := by simp; omega
  have w1 : IntKind.i64.wrap (x.f1 + offset) = x.f1 + offset := IntWalk.i64_in _ (by omega)
  have w2 : IntKind.i64.wrap (x.f2 + offset) = x.f2 + offset := IntWalk.i64_in _ (by omega)
  have KB1 := Lib.hid (⟨b1, b2, b3, b4⟩ : _ ∧ _ ∧ _ ∧ _)
  clear hb' hx b1 b2 b3 b4
  go_enter Try.func17, Try.ntmps17
  by_cases c1 : x.f2 ≤ x.f1
  · have hres := Lib.hid (show b = -1 by rw [HBB.out, liesW, if_pos (.inl c1)])
    go_wp2
    go_ret
    exact ⟨ret_int hres.out.symm, HB.out⟩
  by_cases c2 : x.f1 + offset < 0
  · have hres := Lib.hid (show b = -1 by rw [HBB.out, liesW, if_pos (.inr (.inl c2))])
    go_wp2
    go_ret
    exact ⟨ret_int hres.out.symm, HB.out⟩
  have t1 : (x.f1 + offset).tdiv length = (x.f1 + offset) / length := Int.tdiv_eq_ediv_of_nonneg (by omega)
  obtain ⟨d1, d2⟩ := div_bd (a := x.f1 + offset) (n := length) (by omega) hl1
  have d3 : (x.f1 + offset) / length * length ≤ x.f1 + offset := Int.ediv_mul_le _ (by omega)
  have hlr := lies_ref (length := length) (offset := offset) (x := x) hl1 (by omega) (by omega)
  obtain ⟨q, hq⟩ : ∃ q, q = (x.f1 + offset) / length := ⟨_, rfl⟩
  rw [← hq] at t1 d1 d2 d3 hlr
  have HQ := Lib.hid hq
  clear hq
  have d4 : (q + 1) * length ≤ x.f1 + offset + length := by rw [Int.add_mul]; omega
  have d5 : 0 ≤ (q + 1) * length := Int.mul_nonneg (by omega) (by omega)
  have w4 : IntKind.i64.wrap q = q := IntWalk.i64_in _ (by have := KB1.out; omega)
  have w5 : IntKind.i64.wrap (q + 1) = q + 1 := IntWalk.i64_in _ (by have := KB1.out; omega)
  have w6 : IntKind.i64.wrap ((q + 1) * length) = (q + 1) * length := IntWalk.i64_in _ (by have := KB1.out; omega)
  clear d1 d2 d3 d4 d5
  by_cases c3 : (q + 1) * length < x.f2 + offset
  · have hres := Lib.hid (show b = -1 by rw [HBB.out, liesW, if_pos (.inr (.inr (by have := hlr.1 c3; rwa [HQ.out] at this)))])
    have e3 : decide ((q + 1) * length < x.f2 + offset) = true := decide_eq_true c3
    clear c3 hlr
    go_wp2
    go_ret
    exact ⟨ret_int hres.out.symm, HB.out⟩
  · have hres := Lib.hid (show b = q by rw [HBB.out, liesW, if_neg (by rintro (h | h | h); exact c1 h; exact c2 h; exact c3 (hlr.2 (by rw [HQ.out]; exact h))), HQ.out])
    have e3 : decide ((q + 1) * length < x.f2 + offset) = false := decide_eq_false c3
    clear c3 hlr
    go_wp2
    go_ret
    exact ⟨ret_int hres.out.symm, HB.out⟩
set_option maxRecDepth 100000 in
set_option maxHeartbeats 4000000 in
theorem rverdict_calls (A1 A8 A9 A10 A11 : Option Addr) (c1 c8 c9 c10 c11 : Nat) (C : S28) (w : World) (h : CfgIn w C A1 A8 A9 A10 A11 c1 c8 c9 c10 c11) (length offset : Int) (x : Sh) (hl1 : 1 ≤ length) (hl2 : length ≤ 16777216) (ho1 : -1073741824 ≤ offset) (ho2 : offset ≤ 1073741824) (hx : shotOk x = true) :
    Calls Try.prog 18 #[.agg #[.int .i64 C.f0, .slice A1 C.f1.length c1, .int .i64 C.f2, .int .i64 C.f3, .int .i64 C.f4, .int .i64 C.f5, .int .i64 C.f6, .int .i64 C.f7, .slice A8 C.f8.length c8, .slice A9 C.f9.length c9, .slice A10 C.f10.length c10, .slice A11 C.f11.length c11], .int .i64 length, .int .i64 offset, .agg #[.int .i64 x.f0, .int .i64 x.f1, .int .i64 x.f2]] w fun e w' => e = .returned (.int .i64 (verdictW C length offset x)) ∧ Below w.heap.size w w' := by
  have HR := Lib.hid h
  have HB := Lib.hid (show Below w.heap.size w ((w.alloc (Obj.cells #[.int .i64 C.f0, .slice A1 C.f1.length c1, .int .i64 C.f2, .int .i64 C.f3, .int .i64 C.f4, .int .i64 C.f5, .int .i64 C.f6, .int .i64 C.f7, .slice A8 C.f8.length c8, .slice A9 C.f9.length c9, .slice A10 C.f10.length c10, .slice A11 C.f11.length c11] 28)).alloc (Obj.cells #[.int .i64 x.f0, .int .i64 x.f1, .int .i64 x.f2] 32)) from ((Below.refl _ _).alloc (Nat.le_refl _) _).alloc (by simp) _)
  have HC := Lib.hid (blk_alloc (blk_new w (Obj.cells #[.int .i64 C.f0, .slice A1 C.f1.length c1, .int .i64 C.f2, .int .i64 C.f3, .int .i64 C.f4, .int .i64 C.f5, .int .i64 C.f6, .int .i64 C.f7, .slice A8 C.f8.length c8, .slice A9 C.f9.length c9, .slice A10 C.f10.length c10, .slice A11 C.f11.length c11] 28)) (Obj.cells #[.int .i64 x.f0, .int .i64 x.f1, .int .i64 x.f2] 32))
  have HX := Lib.hid (show ((w.alloc (Obj.cells #[.int .i64 C.f0, .slice A1 C.f1.length c1, .int .i64 C.f2, .int .i64 C.f3, .int .i64 C.f4, .int .i64 C.f5, .int .i64 C.f6, .int .i64 C.f7, .slice A8 C.f8.length c8, .slice A9 C.f9.length c9, .slice A10 C.f10.length c10, .slice A11 C.f11.length c11] 28)).alloc (Obj.cells #[.int .i64 x.f0, .int .i64 x.f1, .int .i64 x.f2] 32)).heap[w.heap.size + 1]? = some (Obj.cells #[.int .i64 x.f0, .int .i64 x.f1, .int .i64 x.f2] 32) from blk_new_at _ _ (by simp))
  clear h
  obtain ⟨b, hb'⟩ : ∃ b, b = verdictW C length offset x := ⟨_, rfl⟩
  rw [← hb']
  have HBB := Lib.hid hb'
  clear hb'
  obtain ⟨s, hs⟩ : ∃ s, s = liesW length offset x := ⟨_, rfl⟩
  have HSS := Lib.hid hs
  clear hs
  go_enter Try.func18, Try.ntmps18
  by_cases q1 : x.f2 ≤ x.f1
  · have hres := Lib.hid (show b = 1 by rw [HBB.out, verdictW, if_pos q1])
    go_wp2
    go_ret
    exact ⟨ret_int hres.out.symm, HB.out⟩
  go_wp2_with fail
  refine (rslot_calls length offset x _ hl1 hl2 ho1 ho2 hx).mono ?_
  rintro e W1 ⟨rfl, hb⟩
  rw [← HSS.out]
  replace HC := Lib.hid (blk_keep hb HC.out)
  replace HX := Lib.hid (blk_keep hb HX.out)
  replace HB := Lib.hid (below_step HB.out hb)
  clear hb
  by_cases q2 : s < 0
  · have hres := Lib.hid (show b = 2 by rw [HBB.out, verdictW, if_neg (by omega), ← HSS.out, if_pos q2])
    go_wp2
    go_ret
    exact ⟨ret_int hres.out.symm, HB.out⟩
  obtain ⟨g0, g1, g2, g3, g4, g5, g6, g7, g8, g9, g10, g11⟩ := cfg_cells HC.out
  obtain ⟨o, ho⟩ : ∃ o, o = ownerW C s := ⟨_, rfl⟩
  have HO := Lib.hid ho
  clear ho
  go_wp2_with fail
  refine (rowner_calls _ _ _ _ _ _ _ _ _ _ C s _ (HR.out.below HB.out)).mono ?_
  rintro e W2 ⟨rfl, hb⟩
  rw [← HO.out]
  clear g0 g1 g2 g3 g4 g5 g6 g7 g8 g9 g10 g11
  replace HX := Lib.hid (blk_keep hb HX.out)
  replace HB := Lib.hid (below_step HB.out hb)
  clear hb
  have x0 := blk_cell HX.out 0
  by_cases q3 : o = x.f0
  · have e3 : (o != x.f0) = false := by simpa using q3
    have hres := Lib.hid (show b = 0 by rw [HBB.out, verdictW, if_neg (by omega), ← HSS.out, if_neg (by omega), ← HO.out, if_pos q3])
    clear q3
    go_wp2
    go_ret
    exact ⟨ret_int hres.out.symm, HB.out⟩
  · have e3 : (o != x.f0) = true := by simpa using q3
    have hres := Lib.hid (show b = 3 by rw [HBB.out, verdictW, if_neg (by omega), ← HSS.out, if_neg (by omega), ← HO.out, if_neg q3])
    clear q3
    go_wp2
    go_ret
    exact ⟨ret_int hres.out.symm, HB.out⟩
theorem rints_calls (A B : Option Addr) (c d : Nat) (l : List Int) (w : World) (hr : Kd.C kI w A l.length l) (hq : Kd.C kI w B l.length l) : Calls Try.prog 21 #[.slice A l.length c, .slice B l.length d] w fun e w' => e = .returned (.bool true) ∧ Below w.heap.size w w' := by
  have hl := hr.2.1
  have HR := Lib.hid hr
  have HQ := Lib.hid hq
  clear hr hq
  go_enter Try.func21, Try.ntmps21
  go_wp2
  go_loopw [5] (fun i W => ∃ k : Nat, k ≤ l.length ∧ i = .int .i64 k ∧ Hid (Below w.heap.size w W)) (fun i _ => l.length - (intOf i).toNat)
  case atStart => exact ⟨0, by omega, rfl, Lib.hid (Below.refl _ _)⟩
  case round =>
    obtain ⟨k, hk, rfl, HB⟩ := hrel
    by_cases hlt : k < l.length
    · obtain ⟨ad, v, e1, h1, HV⟩ := at_I (Kd.C_below HR.out HB.out) k hlt
      obtain ⟨bd, u, e2, h2, HU⟩ := at_I (Kd.C_below HQ.out HB.out) k hlt
      obtain rfl : v = u := by have := HV.out.symm.trans HU.out; injection this
      subst e1
      subst e2
      go_wp2
      go_quiet (fail)
      go_wp2
      go_roundw
      case rel => exact ⟨k + 1, by omega, by go_num, Lib.hid (pw_below_drewN HB.out _)⟩
      case measure => simp [intOf]; omega
    · go_wp2
      go_ret
      exact ⟨rfl, HB.out⟩
end Go.Proofs.Ytloibbfihkfeeaa
