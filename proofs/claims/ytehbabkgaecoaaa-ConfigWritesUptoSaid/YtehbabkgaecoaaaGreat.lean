/- What the document's Great answers: whether tables are more than statements go through. -/
import Derived.Test.YtehbabkgaecoaaaCkC
namespace Go.Proofs.Ytehbabkgaecoaaa
set_option linter.unusedVariables false
set_option linter.unusedSimpArgs false
open Go.RowKit Go.Proofs.YtehbabkgaecoaaaW.PrintWords

def gr1 (C : S29) : Int := (C.f9.take 100).foldl (fun n r => wrap64 (n + (r.length : Int))) (wrap64 ((C.f1.length : Int) + (C.f9.length : Int)))
def gr2 (C : S29) : Int := (C.f11.take 100).foldl (fun n (l : S61) => wrap64 (n + (l.f1.length : Int))) (gr1 C)
def greatB (C : S29) : Bool := decide (1000 < gr2 C) || decide (100 < (C.f8.length : Int)) || decide (100 < (C.f10.length : Int)) || decide (100 < (C.f11.length : Int))
theorem foldT_succ {α β : Type} {f : β → α → β} {l : List α} {k : Nat} {x : α} {b : β} (h : l[k]? = some x) : (l.take (k + 1)).foldl f b = f ((l.take k).foldl f b) x := by
  rw [List.take_add_one, h]; simp
set_option maxRecDepth 100000 in
set_option maxHeartbeats 4000000 in
theorem great_calls (A1 A8 A9 A10 A11 : Option Addr) (c1 c8 c9 c10 c11 : Nat) (C : S29) (w : World) (h : CfgIn w C A1 A8 A9 A10 A11 c1 c8 c9 c10 c11) : Calls Try.prog 16 #[.agg #[.int .i64 C.f0, .slice A1 C.f1.length c1, .int .i64 C.f2, .int .i64 C.f3, .int .i64 C.f4, .int .i64 C.f5, .int .i64 C.f6, .int .i64 C.f7, .slice A8 C.f8.length c8, .slice A9 C.f9.length c9, .slice A10 C.f10.length c10, .slice A11 C.f11.length c11]] w fun e w' => e = .returned (.bool (greatB C)) ∧ Below w.heap.size w w' := by
  have hb : Below w.heap.size w (w.alloc (Obj.cells #[.int .i64 C.f0, .slice A1 C.f1.length c1, .int .i64 C.f2, .int .i64 C.f3, .int .i64 C.f4, .int .i64 C.f5, .int .i64 C.f6, .int .i64 C.f7, .slice A8 C.f8.length c8, .slice A9 C.f9.length c9, .slice A10 C.f10.length c10, .slice A11 C.f11.length c11] 29)) := (Below.refl _ _).alloc (Nat.le_refl _) _
  have HB := Lib.hid hb
  have HR := Lib.hid (h.below hb)
  obtain ⟨l1, l8, l9, l10, l11⟩ := h.len
  clear hb h
  obtain ⟨b, hb⟩ : ∃ b, b = greatB C := ⟨_, rfl⟩
  rw [← hb]
  have HBB := Lib.hid hb
  clear hb
  obtain ⟨s0, hs0⟩ : ∃ s0, s0 = wrap64 ((C.f1.length : Int) + (C.f9.length : Int)) := ⟨_, rfl⟩
  go_enter Try.func16, Try.ntmps16
  go_wp2
  rw [← hs0]
  have HS0 := Lib.hid hs0
  clear hs0
  go_loop [3, 4] (fun v i => ∃ (k : Nat) (n : Int), k ≤ C.f9.length ∧ k ≤ 100 ∧ i = .int .i64 k ∧ v = .int .i64 n ∧ Hid (n = (C.f9.take k).foldl (fun n r => wrap64 (n + (r.length : Int))) s0)) (fun _ i => C.f9.length - (intOf i).toNat)
  case atStart => exact ⟨0, s0, by omega, by omega, rfl, rfl, Lib.hid (by simp)⟩
  case round =>
    obtain ⟨k, n, hk, hk2, rfl, rfl, HN⟩ := hrel
    by_cases hlt : k < C.f9.length ∧ k < 100
    · obtain ⟨hlt, hlt2⟩ := hlt
      obtain ⟨ad, r, Ar, cr, e9, hc, hrc, HRR, HV⟩ := at_W HR.out.2.2.1.2 k hlt
      cases e9
      have HN' := Lib.hid ((foldT_succ HV.out (f := fun n r => wrap64 (n + (r.length : Int))) (b := s0)).symm)
      have e1 : decide ((k : Int) < C.f9.length) = true := decide_eq_true (by omega)
      have e2 : decide ((k : Int) < 100) = true := decide_eq_true (by omega)
      go_wp2
      go_round
      case rel => exact ⟨k + 1, _, by omega, by omega, by go_num, rfl, Lib.hid (by rw [← HN'.out, HN.out])⟩
      case measure => simp [intOf]; omega
    · have hg1 := Lib.hid (show n = gr1 C by
        rw [gr1, ← HS0.out, HN.out]
        congr 1
        by_cases h100 : k = 100
        · rw [h100]
        · rw [List.take_of_length_le (by omega), List.take_of_length_le (by omega)])
      have e12 : C.f9.length ≤ k ∨ (k < C.f9.length ∧ 100 ≤ k) := by omega
      clear HN hlt
      rcases e12 with e1 | ⟨e1, e2⟩
      all_goals
        go_wp2
        go_loop [3, 5] (fun v i => ∃ (j : Nat) (m : Int), j ≤ C.f11.length ∧ j ≤ 100 ∧ i = .int .i64 j ∧ v = .int .i64 m ∧ Hid (m = (C.f11.take j).foldl (fun n (l : S61) => wrap64 (n + (l.f1.length : Int))) n)) (fun _ i => C.f11.length - (intOf i).toNat)
        case atStart => exact ⟨0, n, by omega, by omega, rfl, rfl, Lib.hid (by simp)⟩
        case round =>
          obtain ⟨j, m, hj, hj2, rfl, rfl, HM⟩ := hrel
          by_cases hlj : j < C.f11.length ∧ j < 100
          · obtain ⟨hlj, hlj2⟩ := hlj
            obtain ⟨ad, x, Ax, cx, e11, x0, x1, x2, hcx, HXR, HV⟩ := at_K HR.out.2.2.2.2.2 j hlj
            cases e11
            have HM' := Lib.hid ((foldT_succ HV.out (f := fun n (l : S61) => wrap64 (n + (l.f1.length : Int))) (b := n)).symm)
            have e3 : decide ((j : Int) < C.f11.length) = true := decide_eq_true (by omega)
            have e4 : decide ((j : Int) < 100) = true := decide_eq_true (by omega)
            go_wp2
            go_round
            case rel => exact ⟨j + 1, _, by omega, by omega, by go_num, rfl, Lib.hid (by rw [← HM'.out, HM.out])⟩
            case measure => simp [intOf]; omega
          · have hg2 := Lib.hid (show m = gr2 C by
              rw [gr2, ← hg1.out, HM.out]
              congr 1
              by_cases h100 : j = 100
              · rw [h100]
              · rw [List.take_of_length_le (by omega), List.take_of_length_le (by omega)])
            have e34 : C.f11.length ≤ j ∨ (j < C.f11.length ∧ 100 ≤ j) := by omega
            have hbv := Lib.hid (show b = (decide (1000 < m) || decide (100 < (C.f8.length : Int)) || decide (100 < (C.f10.length : Int)) || decide (100 < (C.f11.length : Int))) by rw [HBB.out, greatB, hg2.out])
            clear HM hlj
            rcases e34 with e3 | ⟨e3, e4⟩
            all_goals
              go_wp2
              all_goals
                go_ret
                exact ⟨ret_bool (by first | (rw [hbv.out]; done) | (rw [hbv.out]; symm; simp only [Bool.or_eq_true, decide_eq_true_eq]; omega)), HB.out⟩
end Go.Proofs.Ytehbabkgaecoaaa
