/- What guard's lies, and a guardian's judging, answer. -/
import Derived.Test.YtloibbfihkfeeaaGA
namespace Go.Proofs.Ytloibbfihkfeeaa
set_option linter.unusedVariables false
set_option linter.unusedSimpArgs false
open Go.RowKit Go.Shelf Go.Proofs.YtloibbfihkfeeaaW.PrintWords

def liesW (length offset : Int) (x : Sh) : Int := if x.f2 ≤ x.f1 ∨ x.f1 + offset < 0 ∨ (x.f1 + offset) / length ≠ (x.f2 + offset - 1) / length then -1 else (x.f1 + offset) / length
theorem shotOk_bd {x : Sh} (h : shotOk x = true) : (-1152921504606846976 ≤ x.f1 ∧ x.f1 ≤ 1152921504606846976) ∧ -1152921504606846976 ≤ x.f2 ∧ x.f2 ≤ 1152921504606846976 := by
  rw [shotOk, Bool.and_eq_true, decide_eq_true_eq, decide_eq_true_eq] at h
  obtain ⟨h1, h2⟩ := h
  unfold mni at h1
  unfold mxi at h2
  by_cases hc : x.f2 < x.f1
  · rw [if_pos hc] at h1
    rw [if_neg (by omega)] at h2
    omega
  · rw [if_neg hc] at h1
    by_cases hd : x.f1 < x.f2
    · rw [if_pos hd] at h2; omega
    · rw [if_neg hd] at h2; omega
theorem div_bd {a n : Int} (h0 : 0 ≤ a) (hn : 1 ≤ n) : 0 ≤ a / n ∧ a / n ≤ a := ⟨Int.ediv_nonneg h0 (by omega), Int.ediv_le_self _ h0⟩
set_option maxHeartbeats 4000000 in
theorem lies_calls (length offset : Int) (x : Sh) (w : World) (hl1 : 1 ≤ length) (hl2 : length ≤ 16777216) (ho1 : -1073741824 ≤ offset) (ho2 : offset ≤ 1073741824) (hx : shotOk x = true) :
    Calls Try.prog 31 #[.int .i64 length, .int .i64 offset, .agg #[.int .i64 x.f0, .int .i64 x.f1, .int .i64 x.f2]] w fun e w' => e = .returned (.int .i64 (liesW length offset x)) ∧ Below w.heap.size w w' := by
  obtain ⟨⟨b1, b2⟩, b3, b4⟩ := shotOk_bd hx
  have hb : Below w.heap.size w (w.alloc (Obj.cells #[.int .i64 x.f0, .int .i64 x.f1, .int .i64 x.f2] 32)) := (Below.refl _ _).alloc (Nat.le_refl _) _
  have HB := Lib.hid hb
  obtain ⟨b, hb'⟩ : ∃ b, b = liesW length offset x := ⟨_, rfl⟩
  rw [← hb']
  have HBB := Lib.hid hb'
  have hl0 : (length == 0) = false := by simp; omega
  have w1 : IntKind.i64.wrap (x.f1 + offset) = x.f1 + offset := IntWalk.i64_in _ (by omega)
  have w2 : IntKind.i64.wrap (x.f2 + offset) = x.f2 + offset := IntWalk.i64_in _ (by omega)
  have w3 : IntKind.i64.wrap (x.f2 + offset - 1) = x.f2 + offset - 1 := IntWalk.i64_in _ (by omega)
  have KB1 := Lib.hid (⟨b1, b2, b3, b4⟩ : _ ∧ _ ∧ _ ∧ _)
  clear hb hb' hx b1 b2 b3 b4
  go_enter Try.func31, Try.ntmps31
  go_wp2
  go_region
  go_wp2
  by_cases c1 : x.f2 ≤ x.f1
  · have hres := Lib.hid (show b = -1 by rw [HBB.out, liesW, if_pos (.inl c1)])
    go_region
    go_wp2
    go_ret
    exact ⟨ret_int hres.out.symm, HB.out.drew.drew⟩
  by_cases c2 : x.f1 + offset < 0
  · have hres := Lib.hid (show b = -1 by rw [HBB.out, liesW, if_pos (.inr (.inl c2))])
    go_region
    go_wp2
    go_ret
    exact ⟨ret_int hres.out.symm, HB.out.drew.drew⟩
  have t1 : (x.f1 + offset).tdiv length = (x.f1 + offset) / length := Int.tdiv_eq_ediv_of_nonneg (by omega)
  have t2 : (x.f2 + offset - 1).tdiv length = (x.f2 + offset - 1) / length := Int.tdiv_eq_ediv_of_nonneg (by omega)
  obtain ⟨d1, d2⟩ := div_bd (a := x.f1 + offset) (n := length) (by omega) hl1
  obtain ⟨d3, d4⟩ := div_bd (a := x.f2 + offset - 1) (n := length) (by omega) hl1
  have w4 : IntKind.i64.wrap ((x.f1 + offset) / length) = (x.f1 + offset) / length := IntWalk.i64_in _ (by have := KB1.out; omega)
  have w5 : IntKind.i64.wrap ((x.f2 + offset - 1) / length) = (x.f2 + offset - 1) / length := IntWalk.i64_in _ (by have := KB1.out; omega)
  clear d1 d2 d3 d4
  by_cases c3 : (x.f1 + offset) / length = (x.f2 + offset - 1) / length
  · have e3 : ((x.f1 + offset) / length != (x.f2 + offset - 1) / length) = false := by simpa using c3
    have hres := Lib.hid (show b = (x.f1 + offset) / length by rw [HBB.out, liesW, if_neg (by omega)])
    clear c3
    go_region
    go_wp2
    go_ret
    first | exact ⟨ret_int hres.out.symm, HB.out.drew.drew⟩ | exact ⟨ret_int hres.out.symm, HB.out.drew.drew.drew⟩
  · have e3 : ((x.f1 + offset) / length != (x.f2 + offset - 1) / length) = true := by simpa using c3
    have hres := Lib.hid (show b = -1 by rw [HBB.out, liesW, if_pos (.inr (.inr c3))])
    clear c3
    go_region
    go_wp2
    go_ret
    exact ⟨ret_int hres.out.symm, HB.out.drew.drew⟩
end Go.Proofs.Ytloibbfihkfeeaa
