/- What config's windows answers. -/
import Derived.Test.YtehbabkgaecoaaaCkB
namespace Go.Proofs.Ytehbabkgaecoaaa
set_option linter.unusedVariables false
set_option linter.unusedSimpArgs false
open Go.RowKit Go.Proofs.YtehbabkgaecoaaaW.PrintWords

/-! Elements of a configuration's tables. -/
section
variable {w : World} {A : Option Addr}
theorem at_P {l : List S57} (h : Kd.C k57 w A l.length l) (k : Nat) (hk : k < l.length) : ∃ ad p, A = some ad ∧ w.cell? (ad.add (k * 3)) = some (.int .i64 p.f0) ∧ w.cell? ⟨(ad.add (k * 3)).block, (ad.add (k * 3)).off + 1, none⟩ = some (.int .i64 p.f1) ∧ w.cell? ⟨(ad.add (k * 3)).block, (ad.add (k * 3)).off + 2, none⟩ = some (.int .i64 p.f2) ∧ Hid (l[k]? = some p) := by
  obtain ⟨ad, e, h0, h1, h2⟩ := at_T57 h k (by omega) (by omega)
  exact ⟨ad, _, e, h0, h1, h2, Lib.hid (by simp [rd_T57, List.getElem?_eq_getElem hk])⟩
theorem at_Q {l : List S59} (h : Kd.C k59 w A l.length l) (k : Nat) (hk : k < l.length) : ∃ ad p, A = some ad ∧ w.cell? (ad.add (k * 6)) = some (.int .i64 p.f0) ∧ w.cell? ⟨(ad.add (k * 6)).block, (ad.add (k * 6)).off + 1, none⟩ = some (.int .i64 p.f1) ∧ w.cell? ⟨(ad.add (k * 6)).block, (ad.add (k * 6)).off + 2, none⟩ = some (.int .i64 p.f2) ∧ w.cell? ⟨(ad.add (k * 6)).block, (ad.add (k * 6)).off + 3, none⟩ = some (.int .i64 p.f3) ∧ w.cell? ⟨(ad.add (k * 6)).block, (ad.add (k * 6)).off + 4, none⟩ = some (.int .i64 p.f4) ∧ w.cell? ⟨(ad.add (k * 6)).block, (ad.add (k * 6)).off + 5, none⟩ = some (.int .i64 p.f5) ∧ Hid (l[k]? = some p) := by
  obtain ⟨ad, e, h0, h1, h2, h3, h4, h5⟩ := at_T59 h k (by omega) (by omega)
  exact ⟨ad, _, e, h0, h1, h2, h3, h4, h5, Lib.hid (by simp [rd_T59, List.getElem?_eq_getElem hk])⟩
theorem at_W {l : List (List Int)} (h : Kd.C (Kd.slice 3 kI) w A l.length l) (k : Nat) (hk : k < l.length) : ∃ ad r Ar cr, A = some ad ∧ w.cell? (ad.add k) = some (.slice Ar r.length cr) ∧ r.length ≤ cr ∧ Hid (Kd.C kI w Ar r.length r) ∧ Hid (l[k]? = some r) := by
  obtain ⟨ad, Ar, cr, e, h0, h1, h2⟩ := at_L1 h k (by omega) (by omega)
  exact ⟨ad, _, Ar, cr, e, h0, h1, Lib.hid h2, Lib.hid (by simp [rd_L1, List.getElem?_eq_getElem hk])⟩
theorem at_K {l : List S61} (h : Kd.C k61 w A l.length l) (k : Nat) (hk : k < l.length) : ∃ ad x Ax cx, A = some ad ∧ w.cell? (ad.add (k * 3)) = some (.int .i64 x.f0) ∧ w.cell? ⟨(ad.add (k * 3)).block, (ad.add (k * 3)).off + 1, none⟩ = some (.slice Ax x.f1.length cx) ∧ w.cell? ⟨(ad.add (k * 3)).block, (ad.add (k * 3)).off + 2, none⟩ = some (.int .i64 x.f2) ∧ x.f1.length ≤ cx ∧ Hid (Kd.C kI w Ax x.f1.length x.f1) ∧ Hid (l[k]? = some x) := by
  obtain ⟨ad, Ax, cx, e, h0, h1, h2, h3, h4⟩ := at_T61 h k (by omega) (by omega)
  exact ⟨ad, _, Ax, cx, e, h0, h1, h2, h3, Lib.hid h4, Lib.hid (by simp [rd_T61, List.getElem?_eq_getElem hk])⟩
end

def winOk (C : S29) (node : Nat) (p : Int) : Bool := decide (p = -1) || (withinB p 0 ((C.f8.length : Int) - 1) && (match C.f8[p.toNat]? with | some q => decide (q.f0 = (node : Int)) | none => false))
def rowOk (C : S29) (node : Nat) (l : List Int) : Bool := decide ((l.length : Int) = C.f0) && l.all (winOk C node)
def winAt (C : S29) (i : Nat) : Bool := match C.f9[i]? with | some l => rowOk C i l | none => true
def windowsB (C : S29) : Bool := decide ((C.f9.length : Int) = C.f0) && (List.range C.f9.length).all (winAt C)
theorem all_take_succ {α : Type} {p : α → Bool} {l : List α} {k : Nat} {x : α} (h : l[k]? = some x) (ha : (l.take k).all p = true) (hx : p x = true) : (l.take (k + 1)).all p = true := by
  rw [List.take_add_one, h]; simp [ha, hx]
theorem all_false_at {α : Type} {p : α → Bool} {l : List α} {k : Nat} {x : α} (h : l[k]? = some x) (hx : p x = false) : l.all p = false := by
  obtain ⟨hk, rfl⟩ := List.getElem?_eq_some_iff.1 h
  rw [List.all_eq_false]; exact ⟨_, List.getElem_mem hk, by simp [hx]⟩
theorem all_range_false {p : Nat → Bool} {n k : Nat} (hk : k < n) (hx : p k = false) : (List.range n).all p = false := by
  rw [List.all_eq_false]; exact ⟨k, List.mem_range.2 hk, by simp [hx]⟩
set_option maxHeartbeats 4000000 in
theorem windows_calls (A1 A8 A9 A10 A11 : Option Addr) (c1 c8 c9 c10 c11 : Nat) (C : S29) (w : World) (h : CfgIn w C A1 A8 A9 A10 A11 c1 c8 c9 c10 c11) : Calls Try.prog 66 #[.agg #[.int .i64 C.f0, .slice A1 C.f1.length c1, .int .i64 C.f2, .int .i64 C.f3, .int .i64 C.f4, .int .i64 C.f5, .int .i64 C.f6, .int .i64 C.f7, .slice A8 C.f8.length c8, .slice A9 C.f9.length c9, .slice A10 C.f10.length c10, .slice A11 C.f11.length c11]] w fun e w' => e = .returned (.bool (windowsB C)) ∧ Below w.heap.size w w' := by
  have hb : Below w.heap.size w (w.alloc (Obj.cells #[.int .i64 C.f0, .slice A1 C.f1.length c1, .int .i64 C.f2, .int .i64 C.f3, .int .i64 C.f4, .int .i64 C.f5, .int .i64 C.f6, .int .i64 C.f7, .slice A8 C.f8.length c8, .slice A9 C.f9.length c9, .slice A10 C.f10.length c10, .slice A11 C.f11.length c11] 29)) := (Below.refl _ _).alloc (Nat.le_refl _) _
  have HB := Lib.hid hb
  have HR := Lib.hid (h.below hb)
  obtain ⟨l1, l8, l9, l10, l11⟩ := h.len
  clear hb h
  by_cases h1 : (C.f9.length : Int) = C.f0
  case neg =>
    have hn : windowsB C = false := by simp [windowsB, h1]
    rw [hn]; clear hn
    have e2 : ((C.f9.length : Int) != C.f0) = true := by simpa using h1
    clear h1
    go_enter Try.func66, Try.ntmps66
    go_wp2
    go_ret
    exact ⟨rfl, HB.out⟩
  have hn := Lib.hid (show windowsB C = (List.range C.f9.length).all (winAt C) by simp [windowsB, h1])
  have e2 : ((C.f9.length : Int) != C.f0) = false := by simpa using h1
  have H1 := Lib.hid h1
  clear h1
  obtain ⟨b, hb⟩ : ∃ b, b = windowsB C := ⟨_, rfl⟩
  rw [← hb]
  have HBB := Lib.hid hb
  clear hb
  go_enter Try.func66, Try.ntmps66
  go_wp2
  go_loop [3, 4, 16] (fun _ _ i => ∃ k : Nat, k ≤ C.f9.length ∧ i = .int .i64 k ∧ Hid ((List.range k).all (winAt C) = true)) (fun _ _ i => C.f9.length - (intOf i).toNat)
  case atStart => exact ⟨0, by omega, rfl, Lib.hid rfl⟩
  case round =>
    obtain ⟨k, hk, rfl, HN⟩ := hrel
    by_cases hlt : k < C.f9.length
    · obtain ⟨ad, r, Ar, cr, e9, hc, hrc, HRR, HV⟩ := at_W HR.out.2.2.1.2 k hlt
      cases e9
      have hrl := HRR.out.2.1
      have hat := Lib.hid (show winAt C k = rowOk C k r by rw [winAt, HV.out])
      by_cases h2 : (r.length : Int) = C.f0
      case neg =>
        have hres := Lib.hid (show b = false by rw [HBB.out, hn.out]; exact all_range_false hlt (by rw [hat.out, rowOk, decide_eq_false h2]; rfl))
        have e3 : ((r.length : Int) != C.f0) = true := by simpa using h2
        clear h2
        go_wp2
        go_ret
        exact ⟨ret_bool hres.out.symm, HB.out⟩
      have hat2 := Lib.hid (show winAt C k = r.all (winOk C k) by rw [hat.out, rowOk, decide_eq_true h2]; simp)
      have e3 : ((r.length : Int) != C.f0) = false := by simpa using h2
      clear h2 hat
      go_wp2
      go_loop [6, 28] (fun _ i => ∃ j : Nat, j ≤ r.length ∧ i = .int .i64 j ∧ Hid ((r.take j).all (winOk C k) = true)) (fun _ i => r.length - (intOf i).toNat)
      case atStart => exact ⟨0, by omega, rfl, Lib.hid (by simp)⟩
      case round =>
        obtain ⟨j, hj, rfl, HM⟩ := hrel
        by_cases hlj : j < r.length
        · obtain ⟨ar, p, rfl, hcp, HP⟩ := at_I HRR.out j hlj
          have ewrap : wrap64 ((C.f8.length : Int) - 1) = (C.f8.length : Int) - 1 := by unfold wrap64; omega
          have EW := Lib.hid ewrap
          clear ewrap
          have hno := Lib.hid (show winOk C k p = false → b = false from fun h => by rw [HBB.out, hn.out]; exact all_range_false hlt (by rw [hat2.out]; exact all_false_at HP.out h))
          have hyes := Lib.hid (fun h => all_take_succ HP.out HM.out h)
          by_cases hm1 : p = -1
          · have hok := Lib.hid (show winOk C k p = true by simp [winOk, hm1])
            have e4 : (p != -1) = false := by simpa using hm1
            clear hm1
            go_wp2
            go_round
            case rel => exact ⟨j + 1, by omega, by go_num, Lib.hid (hyes.out hok.out)⟩
            case measure => simp [intOf]; omega
          have e4 : (p != -1) = true := by simpa using hm1
          have HM1 := Lib.hid hm1
          clear hm1
          by_cases hw : 0 ≤ p ∧ p ≤ (C.f8.length : Int) - 1
          case neg =>
            have hres := Lib.hid (hno.out (by simp [winOk, HM1.out, withinB, hw]))
            go_wp2_with fail
            refine (within_false _ hw).mono ?_
            rintro e w' ⟨rfl, rfl⟩
            go_wp2
            go_ret
            exact ⟨ret_bool hres.out.symm, HB.out⟩
          obtain ⟨hw0, hw1⟩ := hw
          obtain ⟨ap, q, e8, q0, q1, q2, HQ⟩ := at_P HR.out.2.1.2 p.toNat (by omega)
          cases e8
          clear q1 q2
          have hlt8 : p < (C.f8.length : Int) := by omega
          by_cases hq : q.f0 = (k : Int)
          · have hok := Lib.hid (show winOk C k p = true by simp [winOk, withinB, hw0, hw1, HQ.out, hq])
            have e5 : (q.f0 != (k : Int)) = false := by simpa using hq
            clear hq
            go_wp2_with fail
            refine (within_true _ ⟨hw0, hw1⟩).mono ?_
            rintro e w' ⟨rfl, rfl⟩
            go_wp2
            go_round
            case rel => exact ⟨j + 1, by omega, by go_num, Lib.hid (hyes.out hok.out)⟩
            case measure => simp [intOf]; omega
          · have hres := Lib.hid (hno.out (by simp [winOk, HM1.out, HQ.out, hq]))
            have e5 : (q.f0 != (k : Int)) = true := by simpa using hq
            clear hq
            go_wp2_with fail
            refine (within_true _ ⟨hw0, hw1⟩).mono ?_
            rintro e w' ⟨rfl, rfl⟩
            go_wp2
            go_ret
            exact ⟨ret_bool hres.out.symm, HB.out⟩
        · have hfull := Lib.hid (show (List.range (k + 1)).all (winAt C) = true by
            rw [all_range_snoc, HN.out, hat2.out]
            have := HM.out; rw [List.take_of_length_le (by omega)] at this; rw [this]; rfl)
          go_wp2
          go_round
          case rel => exact ⟨k + 1, by omega, by go_num, hfull⟩
          case measure => simp [intOf]; omega
    · have hres := Lib.hid (show b = true by rw [HBB.out, hn.out, show C.f9.length = k by omega]; exact HN.out)
      go_wp2
      go_ret
      exact ⟨ret_bool hres.out.symm, HB.out⟩
end Go.Proofs.Ytehbabkgaecoaaa
