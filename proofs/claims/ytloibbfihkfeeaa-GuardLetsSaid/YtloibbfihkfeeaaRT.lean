/- What the document's Through answers. -/
import Derived.Test.YtloibbfihkfeeaaRG
namespace Go.Proofs.Ytloibbfihkfeeaa
set_option linter.unusedVariables false
set_option linter.unusedSimpArgs false
open Go.RowKit Go.Shelf Go.Proofs.YtloibbfihkfeeaaW.PrintWords Go.Proofs.YtloibbfihkfeeaaW.PrintLast

set_option maxRecDepth 100000 in
set_option maxHeartbeats 16000000 in
theorem rthrough_calls (A1 A8 A9 A10 A11 : Option Addr) (c1 c8 c9 c10 c11 : Nat) (C : S28) (w : World) (h : CfgIn w C A1 A8 A9 A10 A11 c1 c8 c9 c10 c11) (length offset : Int) (A : Option Addr) (c : Nat) (l : List Sh) (hr : Kd.C k32 w A l.length l) (hmay : mayW C length offset l = 0) (hl : l.length ≤ 1000) :
    Calls Try.prog 22 #[.agg #[.int .i64 C.f0, .slice A1 C.f1.length c1, .int .i64 C.f2, .int .i64 C.f3, .int .i64 C.f4, .int .i64 C.f5, .int .i64 C.f6, .int .i64 C.f7, .slice A8 C.f8.length c8, .slice A9 C.f9.length c9, .slice A10 C.f10.length c10, .slice A11 C.f11.length c11], .int .i64 length, .int .i64 offset, .slice A l.length c] w fun e w' => ∃ v, e = .returned v ∧ Kd.R kI 3 w' w.heap.size (fun _ => True) v (thr C length offset l l.length) ∧ Below w.heap.size w w' := by
  have HR := Lib.hid h
  have HL := Lib.hid hr
  have HB0 := Lib.hid (show Below w.heap.size w (w.alloc (Obj.cells #[.int .i64 C.f0, .slice A1 C.f1.length c1, .int .i64 C.f2, .int .i64 C.f3, .int .i64 C.f4, .int .i64 C.f5, .int .i64 C.f6, .int .i64 C.f7, .slice A8 C.f8.length c8, .slice A9 C.f9.length c9, .slice A10 C.f10.length c10, .slice A11 C.f11.length c11] 28)) from (Below.refl _ _).alloc (Nat.le_refl _) _)
  have HN := Lib.hid (blk_new w (o := (Obj.cells #[.int .i64 C.f0, .slice A1 C.f1.length c1, .int .i64 C.f2, .int .i64 C.f3, .int .i64 C.f4, .int .i64 C.f5, .int .i64 C.f6, .int .i64 C.f7, .slice A8 C.f8.length c8, .slice A9 C.f9.length c9, .slice A10 C.f10.length c10, .slice A11 C.f11.length c11] 28)))
  obtain ⟨-, m1, m2, m3, m4, -, m5⟩ := may_bounds hmay
  have HOK := Lib.hid m5
  have HW := Lib.hid (show w.heap.size ≤ (w.alloc (Obj.cells #[.int .i64 C.f0, .slice A1 C.f1.length c1, .int .i64 C.f2, .int .i64 C.f3, .int .i64 C.f4, .int .i64 C.f5, .int .i64 C.f6, .int .i64 C.f7, .slice A8 C.f8.length c8, .slice A9 C.f9.length c9, .slice A10 C.f10.length c10, .slice A11 C.f11.length c11] 28)).heap.size by simp)
  clear h hr hmay m5
  go_enter Try.func22, Try.ntmps22
  go_wp2
  generalize hW1 : w.alloc (Obj.cells #[.int .i64 C.f0, .slice A1 C.f1.length c1, .int .i64 C.f2, .int .i64 C.f3, .int .i64 C.f4, .int .i64 C.f5, .int .i64 C.f6, .int .i64 C.f7, .slice A8 C.f8.length c8, .slice A9 C.f9.length c9, .slice A10 C.f10.length c10, .slice A11 C.f11.length c11] 28) = W1 at *
  clear hW1
  go_loopw [9, 10] (fun v0 i wr => ∃ (k : Nat) (v : Value), k ≤ l.length ∧ i = .int .i64 k ∧ v = v0 ∧ Hid (Kd.R kI 3 wr W1.heap.size (fun _ => True) v (thr C length offset l k)) ∧ Hid (Below W1.heap.size W1 wr)) (fun _ i _ => l.length - (intOf i).toNat)
  case atStart => exact ⟨0, _, by omega, rfl, rfl, Lib.hid (Kd.R_nil _ _ _ _ _), Lib.hid (Below.refl _ _)⟩
  case round =>
    obtain ⟨k, v, hk, rfl, rfl, HO, HB⟩ := hrel
    by_cases hlt : k < l.length
    · obtain ⟨ad, x, e1, x0, x1, x2, HX⟩ := at_S (Kd.C_below HL.out (below_step HB0.out HB.out)) k hlt
      subst e1
      have HC := Lib.hid (blk_keep HB.out HN.out)
      obtain ⟨g0, g1, g2, g3, g4, g5, g6, g7, g8, g9, g10, g11⟩ := cfg_cells HC.out
      have hx := Lib.hid (show shotOk x = true from List.all_eq_true.1 HOK.out x (List.mem_of_getElem? HX.out))
      obtain ⟨v0, hv0⟩ : ∃ v0, v0 = verdictW C length offset x := ⟨_, rfl⟩
      have HV := Lib.hid hv0
      clear hv0
      go_wp2
      apply region_z (N := 9) (ds := []) #[false, false, false, false, false, false, false, false, false]
      · kernel_rfl
      · rfl
      · rfl
      · intro Wd hS
        refine take_ (i := 0) (N := some 19) (v := ?_) (a' := ?_) #[true, false, false, false, false, false, false, false, false] rfl rfl (by kernel_rfl) (fun _ _ _ h => by cases h.1) (Or.inl ⟨by rfl, ?_⟩) hS ?_ ?_
        rotate_left
        · intro w' hb
          have s0 := hb.cell g0
          have s1 := hb.cell g1
          have s2 := hb.cell g2
          have s3 := hb.cell g3
          have s4 := hb.cell g4
          have s5 := hb.cell g5
          have s6 := hb.cell g6
          have s7 := hb.cell g7
          have s8 := hb.cell g8
          have s9 := hb.cell g9
          have s10 := hb.cell g10
          have s11 := hb.cell g11
          go_simp
          with_reducible rfl
        rotate_left
        · simp only [Act.put, List.setIfInBounds_toArray, List.set_cons_zero, List.set_cons_succ]
          rfl
        refine pure_ (i := 1) (N := some 20) (v := ?_) (a' := ?_) #[true, true, false, false, false, false, false, false, false] rfl rfl (by kernel_rfl) (fun _ _ _ h => by cases h.1) (Or.inl ⟨by rfl, ?_⟩) ?_ ?_
        rotate_left
        · intro w'
          go_simp
          with_reducible rfl
        rotate_left
        · simp only [Act.put, List.setIfInBounds_toArray, List.set_cons_zero, List.set_cons_succ]
          rfl
        refine pure_ (i := 2) (N := some 21) (v := ?_) (a' := ?_) #[true, true, true, false, false, false, false, false, false] rfl rfl (by kernel_rfl) (fun _ _ _ h => by cases h.1) (Or.inl ⟨by rfl, ?_⟩) ?_ ?_
        rotate_left
        · intro w'
          go_simp
          with_reducible rfl
        rotate_left
        · simp only [Act.put, List.setIfInBounds_toArray, List.set_cons_zero, List.set_cons_succ]
          rfl
        refine pure_ (i := 3) (N := some 22) (v := ?_) (a' := ?_) #[true, true, true, true, false, false, false, false, false] rfl rfl (by kernel_rfl) (fun _ _ _ h => by cases h.1) (Or.inl ⟨by rfl, ?_⟩) ?_ ?_
        rotate_left
        · intro w'
          go_simp
          with_reducible rfl
        rotate_left
        · simp only [Act.put, List.setIfInBounds_toArray, List.set_cons_zero, List.set_cons_succ]
          rfl
        refine pure_ (i := 4) (N := some 23) (v := ?_) (a' := ?_) #[true, true, true, true, true, false, false, false, false] rfl rfl (by kernel_rfl) (fun _ _ _ h => by cases h.1) (Or.inl ⟨by rfl, ?_⟩) ?_ ?_
        rotate_left
        · intro w'
          go_simp
          with_reducible rfl
        rotate_left
        · simp only [Act.put, List.setIfInBounds_toArray, List.set_cons_zero, List.set_cons_succ]
          rfl
        refine pure_ (i := 5) (N := some 24) (v := ?_) (a' := ?_) #[true, true, true, true, true, true, false, false, false] rfl rfl (by kernel_rfl) (fun _ _ _ h => by cases h.1) (Or.inl ⟨by rfl, ?_⟩) ?_ ?_
        rotate_left
        · intro w'
          go_simp
          with_reducible rfl
        rotate_left
        · simp only [Act.put, List.setIfInBounds_toArray, List.set_cons_zero, List.set_cons_succ]
          rfl
        refine take_ (i := 6) (N := some 25) (v := ?_) (a' := ?_) #[true, true, true, true, true, true, true, false, false] rfl rfl (by kernel_rfl) (fun _ _ _ h => by cases h.1) (Or.inl ⟨by rfl, ?_⟩) hS ?_ ?_
        rotate_left
        · intro w' hb
          have s0 := hb.cell x0
          have s1 := hb.cell x1
          have s2 := hb.cell x2
          go_simp
          with_reducible rfl
        rotate_left
        · simp only [Act.put, List.setIfInBounds_toArray, List.set_cons_zero, List.set_cons_succ]
          rfl
        refine one_ (i := 7) (N := some 26) #[true, true, true, true, true, true, true, true, false] rfl rfl (by kernel_rfl) (by simp) (fun K hK => ?_)
        go_simp
        refine (rverdict_calls _ _ _ _ _ _ _ _ _ _ C _ ((HR.out.below (below_step HB0.out HB.out)).below hS) length offset x m1 m2 m3 m4 hx.out).mono ?_
        rintro e u3 ⟨rfl, hb⟩
        rw [← HV.out]
        have hS3 : Bz wr u3 := Below.trans hS (hb.mono hS.size)
        refine hK.out _ _ hS3 (fun _ => ?_)
        clear hK K hb
        refine pure_ (i := 8) (N := some 11) (v := ?_) (a' := ?_) #[true, true, true, true, true, true, true, true, true] rfl rfl (by kernel_rfl) (fun _ _ _ h => by cases h.1) (Or.inl ⟨by rfl, ?_⟩) ?_ ?_
        rotate_left
        · intro w'
          go_simp
          with_reducible rfl
        rotate_left
        · simp only [Act.put, List.setIfInBounds_toArray, List.set_cons_zero, List.set_cons_succ]
          rfl
        refine done_ (by kernel_rfl) ?_
        exact ⟨rfl, rfl, hS3⟩
      intro W9 hb
      have HB9 := Lib.hid (below_step HB.out hb)
      have HO9 := Lib.hid (Kd.R_below HO.out hb)
      clear hb g0 g1 g2 g3 g4 g5 g6 g7 g8 g9 g10 g11 x0 x1 x2 HC HO HB
      obtain ⟨out, hout⟩ : ∃ out, out = thr C length offset l k := ⟨_, rfl⟩
      rw [← hout] at HO9
      have HOUT := Lib.hid hout
      have hol : out.length = k := by rw [hout, thr_len]
      have HOL := Lib.hid hol
      have HTS := Lib.hid (thr_at (C := C) (length := length) (offset := offset) HX.out)
      rw [← hout] at HTS
      clear hout hol
      go_wp2
      go_loopw [11, 12] (fun z i W => ∃ (j : Nat) (vv : Int), j ≤ k ∧ i = .int .i64 j ∧ z = .int .i64 vv ∧ Hid ((vv = v0 ∧ (v0 = 0 → (psd l out j).any (clsh x) = false)) ∨ (vv = 4 ∧ v0 = 0 ∧ (psd l out j).any (clsh x) = true)) ∧ Hid (Below W9.heap.size W9 W)) (fun _ i _ => k - (intOf i).toNat)
      case atStart => exact ⟨0, v0, by omega, rfl, rfl, Lib.hid (.inl ⟨rfl, fun _ => by simp [psd]⟩), Lib.hid (Below.refl _ _)⟩
      case round =>
        obtain ⟨j, vv, hj, rfl, rfl, HJ, HBI⟩ := hrel
        have HBW := Lib.hid (below_step HB9.out HBI.out)
        by_cases hgo : j < k ∧ vv = 0
        · obtain ⟨hlj, hvv⟩ := hgo
          subst hvv
          have HV0 := Lib.hid (show v0 = 0 ∧ (psd l out j).any (clsh x) = false by
            rcases HJ.out with ⟨h1, h2⟩ | ⟨h1, -, -⟩
            · exact ⟨h1.symm, h2 h1.symm⟩
            · omega)
          have ej : decide ((j : Int) < (k : Int)) = true := decide_eq_true (by omega)
          obtain ⟨Av, cv, rfl, -, hCv⟩ := Kd.R_reads HO9.out
          obtain ⟨ao, o, e2, o0, HOV⟩ := at_I (Kd.C_below hCv HBI.out) j (by rw [HOL.out]; exact hlj)
          subst e2
          clear hCv
          obtain ⟨ad', y, e1, y0, y1, y2, HY⟩ := at_S (Kd.C_below HL.out (below_step HB0.out HBW.out)) j (by omega)
          cases e1
          obtain ⟨ad', x', e1, x0, x1, x2, HX'⟩ := at_S (Kd.C_below HL.out (below_step HB0.out HBW.out)) k hlt
          cases e1
          obtain rfl : x = x' := by have := HX.out.symm.trans HX'.out; injection this
          clear x0 y0
          have hjl : j < l.length := by omega
          have hjo : j < out.length := by rw [HOL.out]; exact hlj
          have hxe := Lib.hid (verdict_zero (HV.out.symm.trans HV0.out.1)).1
          by_cases c0 : o = 0
          case neg =>
            have e0 : (o == 0) = false := by simpa using c0
            have HP := Lib.hid (psd_miss (l := l) HOV.out c0)
            clear c0
            go_wp2
            go_quiet (fail)
            go_wp2
            go_roundw
            case rel => exact ⟨j + 1, 0, by omega, by go_num, rfl, Lib.hid (.inl ⟨HV0.out.1.symm, fun _ => by rw [HP.out]; exact HV0.out.2⟩), Lib.hid (pw_below_drewN HBI.out _)⟩
            case measure => simp [intOf]; omega
          have e0 : (o == 0) = true := by simpa using c0
          have HP := Lib.hid (psd_hit HY.out HOV.out c0)
          have hye := Lib.hid (show y.f1 < y.f2 by
            have hs := thr_said (C := C) (length := length) (offset := offset) (n := k) hlj HY.out
            rw [← HOUT.out, HOV.out, c0] at hs
            injection hs with hs
            exact (verdict_zero (step_zero hs.symm)).1)
          clear c0
          by_cases c1 : y.f1 < x.f2
          case neg =>
            have e1 : decide (y.f1 < x.f2) = false := decide_eq_false c1
            have HN1 := Lib.hid (show (psd l out (j + 1)).any (clsh x) = false by
              rw [HP.out, List.any_append, HV0.out.2]
              cases hc : clsh x y with
              | false => simp [hc]
              | true => exact absurd ((clsh_iff x y).1 hc).1 c1)
            go_wp2
            go_quiet (fail)
            go_wp2
            go_roundw
            case rel => exact ⟨j + 1, 0, by omega, by go_num, rfl, Lib.hid (.inl ⟨HV0.out.1.symm, fun _ => HN1.out⟩), Lib.hid (pw_below_drewN HBI.out _)⟩
            case measure => simp [intOf]; omega
          have e1 : decide (y.f1 < x.f2) = true := decide_eq_true c1
          by_cases c2 : x.f1 < y.f2
          case neg =>
            have e2 : decide (x.f1 < y.f2) = false := decide_eq_false c2
            have HN1 := Lib.hid (show (psd l out (j + 1)).any (clsh x) = false by
              rw [HP.out, List.any_append, HV0.out.2]
              cases hc : clsh x y with
              | false => simp [hc]
              | true => exact absurd ((clsh_iff x y).1 hc).2.1 c2)
            go_wp2
            go_quiet (fail)
            go_wp2
            go_roundw
            case rel => exact ⟨j + 1, 0, by omega, by go_num, rfl, Lib.hid (.inl ⟨HV0.out.1.symm, fun _ => HN1.out⟩), Lib.hid (pw_below_drewN HBI.out _)⟩
            case measure => simp [intOf]; omega
          have e2 : decide (x.f1 < y.f2) = true := decide_eq_true c2
          have HN1 := Lib.hid (show (psd l out (j + 1)).any (clsh x) = true by
            rw [HP.out, List.any_append, show ([y].any (clsh x)) = true by simpa using (clsh_iff x y).2 ⟨c1, c2, hye.out, hxe.out⟩, Bool.or_true])
          go_wp2
          go_quiet (fail)
          go_wp2
          go_roundw
          case rel => exact ⟨j + 1, 4, by omega, by go_num, rfl, Lib.hid (.inr ⟨rfl, HV0.out.1, HN1.out⟩), Lib.hid (pw_below_drewN HBI.out _)⟩
          case measure => simp [intOf]; omega
        · have HST := Lib.hid (show stepV C length offset l out x = vv by
            unfold stepV
            rw [HOL.out, ← HV.out]
            rcases HJ.out with ⟨h1, h2⟩ | ⟨h1, h2, h3⟩
            · by_cases h0 : v0 = 0
              · have hjk : j = k := by
                  by_cases hjk : j = k
                  · exact hjk
                  · exact absurd ⟨by omega, by omega⟩ hgo
                have := h2 h0
                rw [hjk] at this
                rw [if_neg (by rw [this]; simp), h1]
              · rw [if_neg (fun h => h0 h.1), h1]
            · rw [if_pos ⟨h2, any_pre (psd_pre j k hj) h3⟩, h1])
          have HTS2 := Lib.hid (show thr C length offset l (k + 1) = out ++ [vv] by rw [HTS.out, HST.out])
          have HO2 := Lib.hid (Kd.R_below HO9.out HBI.out)
          have HLN := Lib.hid (show (out.length + 1) * 8 ≤ 140737488355328 by rw [HOL.out]; omega)
          by_cases hlj : j < k
          · have ej : decide ((j : Int) < (k : Int)) = true := decide_eq_true (by omega)
            have ev : (vv == 0) = false := by simpa using fun h => hgo ⟨hlj, h⟩
            clear hgo
            go_wp2_with (first | ((with_reducible refine gate_z (b := .append) (xs := #[.tmp 67, .tmp 69]) rfl ?_); at_builtin; refine Kd.R_append kI (w0 := W1) W1.heap.size rfl (.tmp 67) (.tmp 69) 22 3 (.int .i64 0) 8 rfl Try.underlying22 info3 rfl (Nat.zero_lt_one) (by omega) v _ vv [.int .i64 vv] (fun _ => True) (fun _ => False) rfl rfl rfl (fun _ hk => hk.elim) (fun _ _ => trivial) HO2.out HBW.out HBW.out.size HLN.out ?_; intro v6 W6 ho6 hb6 hg6 hat6; have HO6 := Lib.hid ho6; have HB6 := Lib.hid hb6; clear ho6 hb6 hg6 hat6))
            go_roundw
            case rel => exact ⟨k + 1, v6, by omega, by go_num, rfl, Lib.hid (by rw [HTS2.out]; exact HO6.out), HB6⟩
            case measure => simp [intOf]; omega
          · have ej : decide ((j : Int) < (k : Int)) = false := decide_eq_false (by omega)
            clear hgo
            go_wp2_with (first | ((with_reducible refine gate_z (b := .append) (xs := #[.tmp 67, .tmp 69]) rfl ?_); at_builtin; refine Kd.R_append kI (w0 := W1) W1.heap.size rfl (.tmp 67) (.tmp 69) 22 3 (.int .i64 0) 8 rfl Try.underlying22 info3 rfl (Nat.zero_lt_one) (by omega) v _ vv [.int .i64 vv] (fun _ => True) (fun _ => False) rfl rfl rfl (fun _ hk => hk.elim) (fun _ _ => trivial) HO2.out HBW.out HBW.out.size HLN.out ?_; intro v6 W6 ho6 hb6 hg6 hat6; have HO6 := Lib.hid ho6; have HB6 := Lib.hid hb6; clear ho6 hb6 hg6 hat6))
            go_roundw
            case rel => exact ⟨k + 1, v6, by omega, by go_num, rfl, Lib.hid (by rw [HTS2.out]; exact HO6.out), HB6⟩
            case measure => simp [intOf]; omega
    · have hke := Lib.hid (show k = l.length by omega)
      obtain ⟨Av, cv, rfl⟩ := Kd.R_slice HO.out
      go_wp2
      go_ret
      refine ⟨.slice Av (thr C length offset l k).length cv, rfl, ?_, below_step HB0.out HB.out⟩
      have := Kd.R_lower HO.out HW.out
      rw [← hke.out]
      exact this
end Go.Proofs.Ytloibbfihkfeeaa
