/- What guard's may answers. -/
import Derived.Test.YtloibbfihkfeeaaCkH
namespace Go.Proofs.Ytloibbfihkfeeaa
set_option linter.unusedVariables false
set_option linter.unusedSimpArgs false
open Go.RowKit Go.Shelf Go.Proofs.YtloibbfihkfeeaaW.PrintWords
attribute [local go_sem] max2_i min2_i max_2 min_2

abbrev Sh : Type := S32
theorem at_S {w : World} {A : Option Addr} {l : List Sh} (h : Kd.C k32 w A l.length l) (k : Nat) (hk : k < l.length) : ∃ ad p, A = some ad ∧ w.cell? (ad.add (k * 3)) = some (.int .i64 p.f0) ∧ w.cell? ⟨(ad.add (k * 3)).block, (ad.add (k * 3)).off + 1, none⟩ = some (.int .i64 p.f1) ∧ w.cell? ⟨(ad.add (k * 3)).block, (ad.add (k * 3)).off + 2, none⟩ = some (.int .i64 p.f2) ∧ Hid (l[k]? = some p) := by
  obtain ⟨ad, e, h0, h1, h2⟩ := at_T32 h k (by omega) (by omega)
  exact ⟨ad, _, e, h0, h1, h2, Lib.hid (by simp [rd_T32, List.getElem?_eq_getElem hk])⟩
def shotOk (x : Sh) : Bool := decide (-1152921504606846976 ≤ mni x.f1 x.f2) && decide (mxi x.f1 x.f2 ≤ 1152921504606846976)
def mayW (C : S28) (length offset : Int) (l : List Sh) : Int :=
  if checkN C ≠ 0 then checkN C else if length < 2 * C.f4 + 1 ∨ 16777216 < length then 200 else if offset < -1073741824 ∨ 1073741824 < offset then 2 else if l.all shotOk then 0 else 2
theorem check_margin {C : S28} (h : checkN C = 0) : 0 ≤ C.f4 ∧ C.f4 ≤ 16777216 := by
  have hc : clocksB C = true := by
    cases hcc : clocksB C with
    | true => rfl
    | false =>
      unfold checkN at h
      by_cases hn : nodesB C = false
      · rw [if_pos hn] at h; omega
      · rw [if_neg hn, if_pos hcc] at h; omega
  simp only [clocksB, Bool.and_eq_true, withinB, decide_eq_true_eq] at hc
  obtain ⟨⟨⟨⟨⟨h2, h3⟩, h4⟩, _⟩, _⟩, _⟩ := hc
  have : leastW C = 2 * (2 * (C.f2 + C.f3) + 1) + C.f3 := by
    unfold leastW precW wrap64; omega
  omega
theorem all_cons_false {α : Type} {p : α → Bool} {l : List α} {k : Nat} {x : α} (h : l[k]? = some x) (hx : p x = false) : ¬ l.all p = true := by rw [all_false_at h hx]; simp
set_option maxRecDepth 100000 in
set_option maxHeartbeats 4000000 in
theorem may_calls (A1 A8 A9 A10 A11 : Option Addr) (c1 c8 c9 c10 c11 : Nat) (C : S28) (w : World) (h : CfgIn w C A1 A8 A9 A10 A11 c1 c8 c9 c10 c11) (length offset : Int) (A : Option Addr) (c : Nat) (l : List Sh) (hr : Kd.C k32 w A l.length l) :
    Calls Try.prog 29 #[.agg #[.int .i64 C.f0, .slice A1 C.f1.length c1, .int .i64 C.f2, .int .i64 C.f3, .int .i64 C.f4, .int .i64 C.f5, .int .i64 C.f6, .int .i64 C.f7, .slice A8 C.f8.length c8, .slice A9 C.f9.length c9, .slice A10 C.f10.length c10, .slice A11 C.f11.length c11], .int .i64 length, .int .i64 offset, .slice A l.length c] w fun x w' => x = .returned (.int .i64 (mayW C length offset l)) ∧ Below w.heap.size w w' := by
  have hb : Below w.heap.size w (w.alloc (Obj.cells #[.int .i64 C.f0, .slice A1 C.f1.length c1, .int .i64 C.f2, .int .i64 C.f3, .int .i64 C.f4, .int .i64 C.f5, .int .i64 C.f6, .int .i64 C.f7, .slice A8 C.f8.length c8, .slice A9 C.f9.length c9, .slice A10 C.f10.length c10, .slice A11 C.f11.length c11] 28)) := (Below.refl _ _).alloc (Nat.le_refl _) _
  have HB := Lib.hid hb
  have HR := Lib.hid (h.below hb)
  have HS := Lib.hid hr
  have hl := hr.2.1
  have HN := Lib.hid (blk_new w (o := (Obj.cells #[.int .i64 C.f0, .slice A1 C.f1.length c1, .int .i64 C.f2, .int .i64 C.f3, .int .i64 C.f4, .int .i64 C.f5, .int .i64 C.f6, .int .i64 C.f7, .slice A8 C.f8.length c8, .slice A9 C.f9.length c9, .slice A10 C.f10.length c10, .slice A11 C.f11.length c11] 28)))
  clear hb h hr
  obtain ⟨b, hb⟩ : ∃ b, b = mayW C length offset l := ⟨_, rfl⟩
  rw [← hb]
  have HBB := Lib.hid hb
  clear hb
  obtain ⟨n, hn⟩ : ∃ n, n = checkN C := ⟨_, rfl⟩
  have HNN := Lib.hid hn
  clear hn
  go_enter Try.func29, Try.ntmps29
  go_wp2_with fail
  refine (check_calls _ _ _ _ _ _ _ _ _ _ C _ HR.out).mono ?_
  rintro e W1 ⟨rfl, hb1⟩
  rw [← HNN.out]
  have HB1 := Lib.hid (HB.out.trans (hb1.mono HB.out.size))
  have HN1 := Lib.hid ((hb1.block _ (blk_lt HN.out)).trans HN.out)
  clear hb1
  by_cases h0 : n = 0
  case neg =>
    have hres := Lib.hid (show b = n by rw [HBB.out, mayW, ← HNN.out, if_pos h0])
    have e0 : (n != 0) = true := by simpa using h0
    clear h0
    go_wp2
    go_ret
    exact ⟨ret_int hres.out.symm, HB1.out⟩
  obtain ⟨m0, m1⟩ := check_margin (C := C) (by rw [← HNN.out]; exact h0)
  have H0 := Lib.hid h0
  have e0 : (n != 0) = false := by simpa using h0
  clear h0
  obtain ⟨-, -, -, -, g4, -, -, -, -, -, -, -⟩ := cfg_cells HN1.out
  have hbv := Lib.hid (show b = if length < 2 * C.f4 + 1 ∨ 16777216 < length then 200 else if offset < -1073741824 ∨ 1073741824 < offset then 2 else if l.all shotOk then 0 else 2 by
    rw [HBB.out, mayW, ← HNN.out, if_neg (by simp [H0.out])])
  by_cases h1 : length < 2 * C.f4 + 1
  · have hres := Lib.hid (show b = 200 by rw [hbv.out, if_pos (.inl h1)])
    go_wp2
    go_ret
    exact ⟨ret_int hres.out.symm, HB1.out⟩
  by_cases h2 : 16777216 < length
  · have hres := Lib.hid (show b = 200 by rw [hbv.out, if_pos (.inr h2)])
    go_wp2
    go_ret
    exact ⟨ret_int hres.out.symm, HB1.out⟩
  by_cases h3 : offset < -1073741824
  · have hres := Lib.hid (show b = 2 by rw [hbv.out, if_neg (by omega), if_pos (.inl h3)])
    go_wp2
    go_ret
    exact ⟨ret_int hres.out.symm, HB1.out⟩
  by_cases h4 : 1073741824 < offset
  · have hres := Lib.hid (show b = 2 by rw [hbv.out, if_neg (by omega), if_pos (.inr h4)])
    go_wp2
    go_ret
    exact ⟨ret_int hres.out.symm, HB1.out⟩
  have hbw := Lib.hid (show b = if l.all shotOk then 0 else 2 by rw [hbv.out, if_neg (by omega), if_neg (by omega)])
  clear hbv HBB
  go_wp2
  clear g4
  go_loopw [35] (fun i wr => ∃ k : Nat, k ≤ l.length ∧ i = .int .i64 k ∧ Hid ((l.take k).all shotOk = true) ∧ Hid (Below w.heap.size w wr)) (fun i _ => l.length - (intOf i).toNat)
  case atStart => exact ⟨0, by omega, rfl, Lib.hid (by simp), HB1⟩
  case round =>
    clear HB1 HN1 HB HN
    obtain ⟨k, hk, rfl, HA, HB⟩ := hrel
    by_cases hlt : k < l.length
    · obtain ⟨ad, p, e1, p0, p1, p2, HV⟩ := at_S (Kd.C_below HS.out HB.out) k hlt
      subst e1
      have HB2 := Lib.hid (HB.out.alloc HB.out.size (Obj.cells #[.int .i64 p.f0, .int .i64 p.f1, .int .i64 p.f2] 32))
      by_cases h5 : -1152921504606846976 ≤ mni p.f1 p.f2
      case neg =>
        have hres := Lib.hid (show b = 2 by rw [hbw.out, if_neg (all_cons_false HV.out (by simp [shotOk, h5]))])
        have e5 : decide (mni p.f1 p.f2 < -1152921504606846976) = true := decide_eq_true (by omega)
        clear h5
        go_wp2
        go_ret
        exact ⟨ret_int hres.out.symm, HB2.out⟩
      have e5 : decide (mni p.f1 p.f2 < -1152921504606846976) = false := decide_eq_false (by omega)
      have H5 := Lib.hid h5
      clear h5
      by_cases h6 : mxi p.f1 p.f2 ≤ 1152921504606846976
      case neg =>
        have hres := Lib.hid (show b = 2 by rw [hbw.out, if_neg (all_cons_false HV.out (by simp [shotOk, h6]))])
        have e6 : decide (1152921504606846976 < mxi p.f1 p.f2) = true := decide_eq_true (by omega)
        clear h6
        go_wp2
        go_ret
        exact ⟨ret_int hres.out.symm, HB2.out⟩
      have e6 : decide (1152921504606846976 < mxi p.f1 p.f2) = false := decide_eq_false (by omega)
      have HA2 := Lib.hid (all_take_succ HV.out HA.out (show shotOk p = true by simp [shotOk, H5.out, h6]))
      clear h6
      go_wp2
      go_roundw
      case rel => exact ⟨k + 1, by omega, by go_num, HA2, HB2⟩
      case measure => simp [intOf]; omega
    · have hres := Lib.hid (show b = 0 by rw [hbw.out, if_pos (by have := HA.out; rwa [List.take_of_length_le (by omega)] at this)])
      go_wp2
      go_ret
      exact ⟨ret_int hres.out.symm, HB.out⟩
end Go.Proofs.Ytloibbfihkfeeaa
