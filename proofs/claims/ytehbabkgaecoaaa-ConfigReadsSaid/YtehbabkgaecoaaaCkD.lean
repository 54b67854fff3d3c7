/- What config's ports answers. -/
import Derived.Test.YtehbabkgaecoaaaCkC
namespace Go.Proofs.Ytehbabkgaecoaaa
set_option linter.unusedVariables false
set_option linter.unusedSimpArgs false
open Go.RowKit Go.Proofs.YtehbabkgaecoaaaW.PrintWords

def mxi (x y : Int) : Int := if x < y then y else x
def mni (x y : Int) : Int := if y < x then y else x
theorem max2_i (k k' : IntKind) (x y : Int) : Builtin.max2 (.int k x) (.int k' y) = pure (.int k (mxi x y)) := by simp only [Builtin.max2, gt_iff_lt, mxi]
theorem min2_i (k k' : IntKind) (x y : Int) : Builtin.min2 (.int k x) (.int k' y) = pure (.int k (mni x y)) := by simp only [Builtin.min2, mni]
theorem max_2 (ats : Array TypeId) (ty : TypeId) (a b : Value) : Builtin.max_ ats ty #[a, b] = (Builtin.max2 a b >>= fun s => pure s) := by simp only [Builtin.max_, List.foldlM_cons, List.foldlM_nil]
theorem min_2 (ats : Array TypeId) (ty : TypeId) (a b : Value) : Builtin.min_ ats ty #[a, b] = (Builtin.min2 a b >>= fun s => pure s) := by simp only [Builtin.min_, List.foldlM_cons, List.foldlM_nil]
attribute [local go_sem] max2_i min2_i max_2 min_2

def dW (p : S59) : Int := if p.f1 = 2 then mxi 1 (mni p.f4 8) else 0
def fW (p : S59) : Int := if p.f1 = 1 ∧ p.f2 = 2 then mxi 1 (mni p.f5 65535) else 0
def portOk (n : Int) (p : S59) : Bool := decide (p.f1 = 1 ∨ p.f1 = 2) && withinB p.f0 0 (n - 1) && withinB p.f2 1 2 && withinB p.f3 1 32 && decide (p.f4 = dW p) && decide (p.f5 = fW p)
def portsB (C : S29) : Bool := decide (C.f10.length ≤ 64) && C.f10.all (portOk C.f8.length)
set_option maxHeartbeats 8000000 in
theorem ports_calls (A1 A8 A9 A10 A11 : Option Addr) (c1 c8 c9 c10 c11 : Nat) (C : S29) (w : World) (h : CfgIn w C A1 A8 A9 A10 A11 c1 c8 c9 c10 c11) : Calls Try.prog 67 #[.agg #[.int .i64 C.f0, .slice A1 C.f1.length c1, .int .i64 C.f2, .int .i64 C.f3, .int .i64 C.f4, .int .i64 C.f5, .int .i64 C.f6, .int .i64 C.f7, .slice A8 C.f8.length c8, .slice A9 C.f9.length c9, .slice A10 C.f10.length c10, .slice A11 C.f11.length c11]] w fun e w' => e = .returned (.bool (portsB C)) ∧ Below w.heap.size w w' := by
  have hb : Below w.heap.size w (w.alloc (Obj.cells #[.int .i64 C.f0, .slice A1 C.f1.length c1, .int .i64 C.f2, .int .i64 C.f3, .int .i64 C.f4, .int .i64 C.f5, .int .i64 C.f6, .int .i64 C.f7, .slice A8 C.f8.length c8, .slice A9 C.f9.length c9, .slice A10 C.f10.length c10, .slice A11 C.f11.length c11] 29)) := (Below.refl _ _).alloc (Nat.le_refl _) _
  have HB := Lib.hid hb
  have HR := Lib.hid h
  have HN := Lib.hid (blk_new w (o := (Obj.cells #[.int .i64 C.f0, .slice A1 C.f1.length c1, .int .i64 C.f2, .int .i64 C.f3, .int .i64 C.f4, .int .i64 C.f5, .int .i64 C.f6, .int .i64 C.f7, .slice A8 C.f8.length c8, .slice A9 C.f9.length c9, .slice A10 C.f10.length c10, .slice A11 C.f11.length c11] 29)))
  obtain ⟨l1, l8, l9, l10, l11⟩ := h.len
  clear hb h
  by_cases h1 : C.f10.length ≤ 64
  case neg =>
    have hn : portsB C = false := by simp [portsB, h1]
    rw [hn]; clear hn
    go_enter Try.func67, Try.ntmps67
    go_wp2
    go_ret
    exact ⟨rfl, HB.out⟩
  have hn := Lib.hid (show portsB C = C.f10.all (portOk C.f8.length) by simp [portsB, h1])
  obtain ⟨b, hb⟩ : ∃ b, b = portsB C := ⟨_, rfl⟩
  rw [← hb]
  have HBB := Lib.hid hb
  clear hb
  have ewrap : wrap64 ((C.f8.length : Int) - 1) = (C.f8.length : Int) - 1 := by unfold wrap64; omega
  have EW := Lib.hid ewrap
  clear ewrap
  go_enter Try.func67, Try.ntmps67
  go_wp2
  go_loopw [14] (fun i wr => ∃ k : Nat, k ≤ C.f10.length ∧ i = .int .i64 k ∧ Hid ((C.f10.take k).all (portOk C.f8.length) = true) ∧ Hid (Below w.heap.size w wr) ∧ Hid (wr.heap[w.heap.size]? = some (Obj.cells #[.int .i64 C.f0, .slice A1 C.f1.length c1, .int .i64 C.f2, .int .i64 C.f3, .int .i64 C.f4, .int .i64 C.f5, .int .i64 C.f6, .int .i64 C.f7, .slice A8 C.f8.length c8, .slice A9 C.f9.length c9, .slice A10 C.f10.length c10, .slice A11 C.f11.length c11] 29))) (fun i _ => C.f10.length - (intOf i).toNat)
  case atStart => exact ⟨0, by omega, rfl, Lib.hid (by simp), HB, HN⟩
  case round =>
    clear HB HN
    obtain ⟨k, hk, rfl, HA, HB, HC⟩ := hrel
    by_cases hlt : k < C.f10.length
    · obtain ⟨ad, p, e10, p0, p1, p2, p3, p4, p5, HV⟩ := at_Q (HR.out.below HB.out).2.2.2.1.2 k hlt
      cases e10
      obtain ⟨-, -, -, -, -, -, -, -, g8, -, -, -⟩ := cfg_cells HC.out
      have hlt' := blk_lt HC.out
      have hno := Lib.hid (show portOk C.f8.length p = false → b = false from fun h => by rw [HBB.out, hn.out]; exact all_false_at HV.out h)
      have hyes := Lib.hid (fun h => all_take_succ HV.out HA.out h)
      have HB2 := Lib.hid (HB.out.alloc HB.out.size (Obj.cells #[.int .i64 p.f0, .int .i64 p.f1, .int .i64 p.f2, .int .i64 p.f3, .int .i64 p.f4, .int .i64 p.f5] 59))
      have HC2 := Lib.hid (blk_alloc HC.out (Obj.cells #[.int .i64 p.f0, .int .i64 p.f1, .int .i64 p.f2, .int .i64 p.f3, .int .i64 p.f4, .int .i64 p.f5] 59))
      by_cases k2 : p.f1 = 2
      · have ed := Lib.hid (show dW p = mxi 1 (mni p.f4 8) by simp [dW, k2])
        have ef := Lib.hid (show fW p = 0 by simp [fW, k2])
        have e1 : (p.f1 == 2) = true := by simpa using k2
        have K := Lib.hid (show p.f1 = 1 ∨ p.f1 = 2 from .inr k2)
        clear k2
        go_wp2_with fail
        obtain ⟨b1, e1, hc1⟩ := within_any p.f0 0 ((C.f8.length : Int) - 1) _
        have E1 := Lib.hid e1
        clear e1
        refine hc1.mono ?_
        clear hc1
        rintro e w2 ⟨rfl, rfl⟩
        cases b1
        case false =>
          go_wp2
          go_ret
          exact ⟨ret_bool (hno.out (by simp [portOk, ← E1.out])).symm, HB2.out⟩
        go_wp2_with fail
        obtain ⟨b2, e2, hc2⟩ := within_any p.f2 1 2 _
        have E2 := Lib.hid e2
        clear e2
        refine hc2.mono ?_
        clear hc2
        rintro e w2 ⟨rfl, rfl⟩
        cases b2
        case false =>
          go_wp2
          go_ret
          exact ⟨ret_bool (hno.out (by simp [portOk, ← E2.out])).symm, HB2.out⟩
        go_wp2_with fail
        by_cases c4 : p.f4 = mxi 1 (mni p.f4 8)
        case neg =>
          have f4 : (p.f4 != mxi 1 (mni p.f4 8)) = true := by simpa using c4
          have hres := Lib.hid (hno.out (by simp [portOk, ed.out, c4]))
          clear c4
          obtain ⟨b3, e3, hc3⟩ := within_any p.f3 1 32 _
          have E3 := Lib.hid e3
          clear e3
          refine hc3.mono ?_
          clear hc3
          rintro e w2 ⟨rfl, rfl⟩
          go_wp2
          all_goals (go_ret; exact ⟨ret_bool hres.out.symm, HB2.out⟩)
        by_cases c5 : p.f5 = 0
        case neg =>
          have f4 : (p.f4 != mxi 1 (mni p.f4 8)) = false := by simpa using c4
          have f5 : (p.f5 != 0) = true := by simpa using c5
          have hres := Lib.hid (hno.out (by simp [portOk, ef.out, c5]))
          clear c4 c5
          obtain ⟨b3, e3, hc3⟩ := within_any p.f3 1 32 _
          have E3 := Lib.hid e3
          clear e3
          refine hc3.mono ?_
          clear hc3
          rintro e w2 ⟨rfl, rfl⟩
          go_wp2
          all_goals (go_ret; exact ⟨ret_bool hres.out.symm, HB2.out⟩)
        have f4 : (p.f4 != mxi 1 (mni p.f4 8)) = false := by simpa using c4
        have f5 : (p.f5 != 0) = false := by simpa using c5
        have hd := Lib.hid (show decide (p.f4 = dW p) = true ∧ decide (p.f5 = fW p) = true from ⟨by rw [ed.out]; exact decide_eq_true c4, by rw [ef.out]; exact decide_eq_true c5⟩)
        clear c4 c5
        obtain ⟨b3, e3, hc3⟩ := within_any p.f3 1 32 _
        have E3 := Lib.hid e3
        clear e3
        refine hc3.mono ?_
        clear hc3
        rintro e w2 ⟨rfl, rfl⟩
        cases b3
        case false =>
          go_wp2
          go_ret
          exact ⟨ret_bool (hno.out (by simp [portOk, ← E3.out])).symm, HB2.out⟩
        go_wp2_with fail
        have hok := Lib.hid (show portOk C.f8.length p = true by rw [portOk, ← E1.out, ← E2.out, ← E3.out, hd.out.1, hd.out.2, decide_eq_true K.out]; rfl)
        go_roundw
        case rel => first | exact ⟨k + 1, by omega, by go_num, Lib.hid (hyes.out hok.out), HB2, HC2⟩ | ((repeat apply Exists.intro); exact ⟨⟨k + 1, by omega, by go_num, Lib.hid (hyes.out hok.out), HB2, HC2⟩, rfl⟩)
        case measure => simp [intOf]; omega
      have e1 : (p.f1 == 2) = false := by simpa using k2
      have ed := Lib.hid (show dW p = 0 by simp [dW, k2])
      by_cases k1 : p.f1 = 1
      · have e2 : (p.f1 == 1) = true := by simpa using k1
        have e2' : (p.f1 != 1) = false := by simpa using k1
        have K := Lib.hid (show p.f1 = 1 ∨ p.f1 = 2 from .inl k1)
        by_cases k3 : p.f2 = 2
        · have ef := Lib.hid (show fW p = mxi 1 (mni p.f5 65535) by simp [fW, k1, k3])
          have e3 : (p.f2 == 2) = true := by simpa using k3
          clear k1 k2 k3
          go_wp2_with fail
          obtain ⟨b1, e1, hc1⟩ := within_any p.f0 0 ((C.f8.length : Int) - 1) _
          have E1 := Lib.hid e1
          clear e1
          refine hc1.mono ?_
          clear hc1
          rintro e w2 ⟨rfl, rfl⟩
          cases b1
          case false =>
            go_wp2
            go_ret
            exact ⟨ret_bool (hno.out (by simp [portOk, ← E1.out])).symm, HB2.out⟩
          go_wp2_with fail
          obtain ⟨b2, e2, hc2⟩ := within_any p.f2 1 2 _
          have E2 := Lib.hid e2
          clear e2
          refine hc2.mono ?_
          clear hc2
          rintro e w2 ⟨rfl, rfl⟩
          cases b2
          case false =>
            go_wp2
            go_ret
            exact ⟨ret_bool (hno.out (by simp [portOk, ← E2.out])).symm, HB2.out⟩
          go_wp2_with fail
          by_cases c4 : p.f4 = 0
          case neg =>
            have f4 : (p.f4 != 0) = true := by simpa using c4
            have hres := Lib.hid (hno.out (by simp [portOk, ed.out, c4]))
            clear c4
            obtain ⟨b3, e3, hc3⟩ := within_any p.f3 1 32 _
            have E3 := Lib.hid e3
            clear e3
            refine hc3.mono ?_
            clear hc3
            rintro e w2 ⟨rfl, rfl⟩
            go_wp2
            all_goals (go_ret; exact ⟨ret_bool hres.out.symm, HB2.out⟩)
          by_cases c5 : p.f5 = mxi 1 (mni p.f5 65535)
          case neg =>
            have f4 : (p.f4 != 0) = false := by simpa using c4
            have f5 : (p.f5 != mxi 1 (mni p.f5 65535)) = true := by simpa using c5
            have hres := Lib.hid (hno.out (by simp [portOk, ef.out, c5]))
            clear c4 c5
            obtain ⟨b3, e3, hc3⟩ := within_any p.f3 1 32 _
            have E3 := Lib.hid e3
            clear e3
            refine hc3.mono ?_
            clear hc3
            rintro e w2 ⟨rfl, rfl⟩
            go_wp2
            all_goals (go_ret; exact ⟨ret_bool hres.out.symm, HB2.out⟩)
          have f4 : (p.f4 != 0) = false := by simpa using c4
          have f5 : (p.f5 != mxi 1 (mni p.f5 65535)) = false := by simpa using c5
          have hd := Lib.hid (show decide (p.f4 = dW p) = true ∧ decide (p.f5 = fW p) = true from ⟨by rw [ed.out]; exact decide_eq_true c4, by rw [ef.out]; exact decide_eq_true c5⟩)
          clear c4 c5
          obtain ⟨b3, e3, hc3⟩ := within_any p.f3 1 32 _
          have E3 := Lib.hid e3
          clear e3
          refine hc3.mono ?_
          clear hc3
          rintro e w2 ⟨rfl, rfl⟩
          cases b3
          case false =>
            go_wp2
            go_ret
            exact ⟨ret_bool (hno.out (by simp [portOk, ← E3.out])).symm, HB2.out⟩
          go_wp2_with fail
          have hok := Lib.hid (show portOk C.f8.length p = true by rw [portOk, ← E1.out, ← E2.out, ← E3.out, hd.out.1, hd.out.2, decide_eq_true K.out]; rfl)
          go_roundw
          case rel => first | exact ⟨k + 1, by omega, by go_num, Lib.hid (hyes.out hok.out), HB2, HC2⟩ | ((repeat apply Exists.intro); exact ⟨⟨k + 1, by omega, by go_num, Lib.hid (hyes.out hok.out), HB2, HC2⟩, rfl⟩)
          case measure => simp [intOf]; omega
        · have ef := Lib.hid (show fW p = 0 by simp [fW, k3])
          have e3 : (p.f2 == 2) = false := by simpa using k3
          clear k1 k2 k3
          go_wp2_with fail
          obtain ⟨b1, e1, hc1⟩ := within_any p.f0 0 ((C.f8.length : Int) - 1) _
          have E1 := Lib.hid e1
          clear e1
          refine hc1.mono ?_
          clear hc1
          rintro e w2 ⟨rfl, rfl⟩
          cases b1
          case false =>
            go_wp2
            go_ret
            exact ⟨ret_bool (hno.out (by simp [portOk, ← E1.out])).symm, HB2.out⟩
          go_wp2_with fail
          obtain ⟨b2, e2, hc2⟩ := within_any p.f2 1 2 _
          have E2 := Lib.hid e2
          clear e2
          refine hc2.mono ?_
          clear hc2
          rintro e w2 ⟨rfl, rfl⟩
          cases b2
          case false =>
            go_wp2
            go_ret
            exact ⟨ret_bool (hno.out (by simp [portOk, ← E2.out])).symm, HB2.out⟩
          go_wp2_with fail
          by_cases c4 : p.f4 = 0
          case neg =>
            have f4 : (p.f4 != 0) = true := by simpa using c4
            have hres := Lib.hid (hno.out (by simp [portOk, ed.out, c4]))
            clear c4
            obtain ⟨b3, e3, hc3⟩ := within_any p.f3 1 32 _
            have E3 := Lib.hid e3
            clear e3
            refine hc3.mono ?_
            clear hc3
            rintro e w2 ⟨rfl, rfl⟩
            go_wp2
            all_goals (go_ret; exact ⟨ret_bool hres.out.symm, HB2.out⟩)
          by_cases c5 : p.f5 = 0
          case neg =>
            have f4 : (p.f4 != 0) = false := by simpa using c4
            have f5 : (p.f5 != 0) = true := by simpa using c5
            have hres := Lib.hid (hno.out (by simp [portOk, ef.out, c5]))
            clear c4 c5
            obtain ⟨b3, e3, hc3⟩ := within_any p.f3 1 32 _
            have E3 := Lib.hid e3
            clear e3
            refine hc3.mono ?_
            clear hc3
            rintro e w2 ⟨rfl, rfl⟩
            go_wp2
            all_goals (go_ret; exact ⟨ret_bool hres.out.symm, HB2.out⟩)
          have f4 : (p.f4 != 0) = false := by simpa using c4
          have f5 : (p.f5 != 0) = false := by simpa using c5
          have hd := Lib.hid (show decide (p.f4 = dW p) = true ∧ decide (p.f5 = fW p) = true from ⟨by rw [ed.out]; exact decide_eq_true c4, by rw [ef.out]; exact decide_eq_true c5⟩)
          clear c4 c5
          obtain ⟨b3, e3, hc3⟩ := within_any p.f3 1 32 _
          have E3 := Lib.hid e3
          clear e3
          refine hc3.mono ?_
          clear hc3
          rintro e w2 ⟨rfl, rfl⟩
          cases b3
          case false =>
            go_wp2
            go_ret
            exact ⟨ret_bool (hno.out (by simp [portOk, ← E3.out])).symm, HB2.out⟩
          go_wp2_with fail
          have hok := Lib.hid (show portOk C.f8.length p = true by rw [portOk, ← E1.out, ← E2.out, ← E3.out, hd.out.1, hd.out.2, decide_eq_true K.out]; rfl)
          go_roundw
          case rel => first | exact ⟨k + 1, by omega, by go_num, Lib.hid (hyes.out hok.out), HB2, HC2⟩ | ((repeat apply Exists.intro); exact ⟨⟨k + 1, by omega, by go_num, Lib.hid (hyes.out hok.out), HB2, HC2⟩, rfl⟩)
          case measure => simp [intOf]; omega
      · have hres := Lib.hid (hno.out (by simp [portOk, k1, k2]))
        have e2 : (p.f1 == 1) = false := by simpa using k1
        have e2' : (p.f1 != 1) = true := by simpa using k1
        clear k1 k2
        go_wp2
        go_ret
        exact ⟨ret_bool hres.out.symm, HB2.out⟩
    · have hres := Lib.hid (show b = true by rw [HBB.out, hn.out]; have := HA.out; rwa [List.take_of_length_le (by omega)] at this)
      go_wp2
      go_ret
      exact ⟨ret_bool hres.out.symm, HB.out⟩
end Go.Proofs.Ytehbabkgaecoaaa
