/- The walk of ConfigBack. -/
import Derived.Test.YtehbabkgaecoaaaBk
import Derived.Test.YtehbabkgaecoaaaEA
import Derived.Test.YtehbabkgaecoaaaSM
import Derived.Test.YtehbabkgaecoaaaGrF
namespace Go.Proofs.Ytehbabkgaecoaaa
set_option linter.unusedVariables false
set_option linter.unusedSimpArgs false
open Go.RowKit Go.Shelf Go.Proofs.YtehbabkgaecoaaaW.PrintWords Go.Proofs.YtehbabkgaecoaaaW.PrintLast

theorem enc_len0 {C : S29} {b : List Int} (h : encS C = (b, 0)) : b.length = 4 + 4 * (cfgNums C).length := by
  unfold encS at h
  split at h
  · injection h with h
    rw [← h, List.length_append, enc_len]
    rfl
  · cases h
theorem byte_of {x : Int} (h : (Lit.int .u8 x).wf = true) : Byte x := by
  unfold Byte
  simp [Lit.wf, IntKind.min, IntKind.max, IntKind.signed, IntKind.bits] at h
  omega
set_option maxRecDepth 100000 in
set_option maxHeartbeats 32000000 in
theorem back_calls (w : World) (A1 A8 A9 A10 A11 : Option Addr) (c1 c8 c9 c10 c11 : Nat) (C : S29) (h : CfgIn w C A1 A8 A9 A10 A11 c1 c8 c9 c10 c11) (_hC : CfgOk C) (_hz : SzOk C) (hm : (cfgNums C).length ≤ 1048576) (A0 : Option Addr) (c0 : Nat) (l0 : List Int) (hr0 : Kd.C (Kd.int .u8) w A0 l0.length l0) (hc0 : l0.length ≤ c0) (_hl0 : l0.length * 1 ≤ 140737488351232) (hw0 : ∀ x ∈ l0, (Lit.int .u8 x).wf = true) :
    Calls Try.prog 10 #[.agg #[.int .i64 C.f0, .slice A1 C.f1.length c1, .int .i64 C.f2, .int .i64 C.f3, .int .i64 C.f4, .int .i64 C.f5, .int .i64 C.f6, .int .i64 C.f7, .slice A8 C.f8.length c8, .slice A9 C.f9.length c9, .slice A10 C.f10.length c10, .slice A11 C.f11.length c11], .slice A0 l0.length c0] w fun e w' => e = .returned (.bool true) ∧ Below w.heap.size w w' := by
  have HR := Lib.hid h
  have HM := Lib.hid hm
  have HL := Lib.hid (show Kd.C kU w A0 l0.length l0 from hr0)
  have HLC := Lib.hid hc0
  have HLB := Lib.hid (show ∀ x ∈ l0, Byte x from fun x hx => byte_of (hw0 x hx))
  have HB := Lib.hid (show Below w.heap.size w (w.alloc (Obj.cells #[.int .i64 C.f0, .slice A1 C.f1.length c1, .int .i64 C.f2, .int .i64 C.f3, .int .i64 C.f4, .int .i64 C.f5, .int .i64 C.f6, .int .i64 C.f7, .slice A8 C.f8.length c8, .slice A9 C.f9.length c9, .slice A10 C.f10.length c10, .slice A11 C.f11.length c11] 29)) from (Below.refl _ _).alloc (Nat.le_refl _) _)
  have H0 := Lib.hid (blk_new w (o := (Obj.cells #[.int .i64 C.f0, .slice A1 C.f1.length c1, .int .i64 C.f2, .int .i64 C.f3, .int .i64 C.f4, .int .i64 C.f5, .int .i64 C.f6, .int .i64 C.f7, .slice A8 C.f8.length c8, .slice A9 C.f9.length c9, .slice A10 C.f10.length c10, .slice A11 C.f11.length c11] 29)))
  clear h _hz _hC hm hr0 hc0 hw0 _hl0
  go_enter Try.func10, Try.ntmps10
  obtain ⟨k0, k1, k2, k3, k4, k5, k6, k7, k8, k9, k10, k11⟩ := cfg_cells H0.out
  go_wp2_with fail
  refine (alive_calls _).mono ?_
  rintro e u ⟨rfl, hb⟩
  clear k0 k1 k2 k3 k4 k5 k6 k7 k8 k9 k10 k11
  replace H0 := Lib.hid (blk_keep hb H0.out)
  replace HB := Lib.hid (below_step HB.out hb)
  clear hb
  obtain ⟨k0, k1, k2, k3, k4, k5, k6, k7, k8, k9, k10, k11⟩ := cfg_cells H0.out
  obtain ⟨gr, hgr⟩ : ∃ gr, gr = greatB C := ⟨_, rfl⟩
  have HG0 := Lib.hid hgr
  clear hgr
  go_wp2_with fail
  refine (great_calls _ _ _ _ _ _ _ _ _ _ C _ (HR.out.below HB.out)).mono ?_
  rintro e u ⟨rfl, hb⟩
  clear k0 k1 k2 k3 k4 k5 k6 k7 k8 k9 k10 k11
  replace H0 := Lib.hid (blk_keep hb H0.out)
  replace HB := Lib.hid (below_step HB.out hb)
  clear hb
  obtain ⟨k0, k1, k2, k3, k4, k5, k6, k7, k8, k9, k10, k11⟩ := cfg_cells H0.out
  rw [← HG0.out]
  clear HG0
  cases gr
  case true =>
    go_wp2
    go_ret
    exact ⟨rfl, HB.out⟩
  by_cases hl5 : l0.length ≤ 100000
  case neg =>
    have e40 : decide (100000 < (l0.length : Int)) = true := decide_eq_true (by omega)
    go_wp2
    go_ret
    exact ⟨rfl, HB.out⟩
  have e40 : decide (100000 < (l0.length : Int)) = false := decide_eq_false (by omega)
  have HL5 := Lib.hid hl5
  clear hl5
  go_wp2_with fail
  refine (encode_calls _ _ _ _ _ _ _ _ _ _ C _ (HR.out.below HB.out) (by have := HM.out; omega)).mono ?_
  rintro e W1 ⟨v, rfl, hr, hb⟩
  obtain ⟨Av, cv, rfl, hcv, hCv⟩ := Kd.R_reads hr
  clear k0 k1 k2 k3 k4 k5 k6 k7 k8 k9 k10 k11
  obtain ⟨⟨X, ez⟩, hX⟩ : ∃ x, x = encS C := ⟨_, rfl⟩
  have HBX := Lib.hid (bytes_encS C)
  rw [← hX] at hCv hcv ⊢ HBX
  dsimp only at hCv hcv ⊢ HBX
  have HX := Lib.hid hX
  replace H0 := Lib.hid (blk_keep hb H0.out)
  replace HB := Lib.hid (below_step HB.out hb)
  clear hX hr hb
  go_wp2_with fail
  refine (decode_calls _ Av cv X hCv hcv HBX.out).mono ?_
  obtain ⟨⟨D, zd⟩, hD⟩ : ∃ x, x = decD X := ⟨_, rfl⟩
  rw [← hD]
  have HD := Lib.hid hD
  clear hD
  rintro e W2 ⟨B1, B8, B9, B10, B11, d1, d8, d9, d10, d11, rfl, ho, hb⟩
  dsimp only
  have HID := Lib.hid (ho.in_.below ((Below.refl W2.heap.size W2).alloc (Nat.le_refl _) (Obj.cells #[.int .i64 D.f0, .slice B1 D.f1.length d1, .int .i64 D.f2, .int .i64 D.f3, .int .i64 D.f4, .int .i64 D.f5, .int .i64 D.f6, .int .i64 D.f7, .slice B8 D.f8.length d8, .slice B9 D.f9.length d9, .slice B10 D.f10.length d10, .slice B11 D.f11.length d11] 29)))
  have hba : Below W2.heap.size W2 (W2.alloc (Obj.cells #[.int .i64 D.f0, .slice B1 D.f1.length d1, .int .i64 D.f2, .int .i64 D.f3, .int .i64 D.f4, .int .i64 D.f5, .int .i64 D.f6, .int .i64 D.f7, .slice B8 D.f8.length d8, .slice B9 D.f9.length d9, .slice B10 D.f10.length d10, .slice B11 D.f11.length d11] 29)) := (Below.refl _ _).alloc (Nat.le_refl _) _
  have H2 := Lib.hid (blk_new W2 (Obj.cells #[.int .i64 D.f0, .slice B1 D.f1.length d1, .int .i64 D.f2, .int .i64 D.f3, .int .i64 D.f4, .int .i64 D.f5, .int .i64 D.f6, .int .i64 D.f7, .slice B8 D.f8.length d8, .slice B9 D.f9.length d9, .slice B10 D.f10.length d10, .slice B11 D.f11.length d11] 29))
  replace H0 := Lib.hid (blk_keep hba (blk_keep hb H0.out))
  replace HB := Lib.hid (below_step (below_step HB.out hb) hba)
  clear hb hba ho hCv hcv HBX
  by_cases hez : ez = 0
  · subst hez
    have hdd := dec_enc C (by rw [← HX.out])
    rw [← HX.out] at hdd
    dsimp only at hdd
    rw [← HD.out] at hdd
    injection hdd with hd1 hd2
    subst hd2
    subst hd1
    clear HX HD
    obtain ⟨k0, k1, k2, k3, k4, k5, k6, k7, k8, k9, k10, k11⟩ := cfg_cells H0.out
    obtain ⟨n0, n1, n2, n3, n4, n5, n6, n7, n8, n9, n10, n11⟩ := cfg_cells H2.out
    go_wp2_with fail
    refine (same_calls _ _ _ _ _ _ _ _ _ _ _ _ _ _ _ _ _ _ _ _ D _ (HR.out.below HB.out) HID.out).mono ?_
    rintro e u ⟨rfl, hb⟩
    clear k0 k1 k2 k3 k4 k5 k6 k7 k8 k9 k10 k11 n0 n1 n2 n3 n4 n5 n6 n7 n8 n9 n10 n11
    replace HB := Lib.hid (below_step HB.out hb)
    clear hb H2 HID
    clear H0
    have H0 := trivial
    go_wp2_with fail
    refine (decode_calls _ A0 c0 l0 (Kd.C_below HL.out HB.out) HLC.out HLB.out).mono ?_
    obtain ⟨⟨G, z⟩, hG⟩ : ∃ x, x = decD l0 := ⟨_, rfl⟩
    rw [← hG]
    have HG := Lib.hid hG
    clear hG
    rintro e W3 ⟨B1, B8, B9, B10, B11, d1, d8, d9, d10, d11, rfl, ho, hb⟩
    dsimp only
    have HIG := Lib.hid (ho.in_.below ((Below.refl W3.heap.size W3).alloc (Nat.le_refl _) (Obj.cells #[.int .i64 G.f0, .slice B1 G.f1.length d1, .int .i64 G.f2, .int .i64 G.f3, .int .i64 G.f4, .int .i64 G.f5, .int .i64 G.f6, .int .i64 G.f7, .slice B8 G.f8.length d8, .slice B9 G.f9.length d9, .slice B10 G.f10.length d10, .slice B11 G.f11.length d11] 29)))
    have HB3 := Lib.hid (below_step (below_step HB.out hb) ((Below.refl _ _).alloc (Nat.le_refl _) (Obj.cells #[.int .i64 G.f0, .slice B1 G.f1.length d1, .int .i64 G.f2, .int .i64 G.f3, .int .i64 G.f4, .int .i64 G.f5, .int .i64 G.f6, .int .i64 G.f7, .slice B8 G.f8.length d8, .slice B9 G.f9.length d9, .slice B10 G.f10.length d10, .slice B11 G.f11.length d11] 29)))
    have H3 := Lib.hid (blk_new W3 (Obj.cells #[.int .i64 G.f0, .slice B1 G.f1.length d1, .int .i64 G.f2, .int .i64 G.f3, .int .i64 G.f4, .int .i64 G.f5, .int .i64 G.f6, .int .i64 G.f7, .slice B8 G.f8.length d8, .slice B9 G.f9.length d9, .slice B10 G.f10.length d10, .slice B11 G.f11.length d11] 29))
    clear hb ho HB H0
    by_cases hz : z = 0
    case neg =>
      have hez := dec_err l0
      rw [← HG.out] at hez
      rcases hez with he | he
      · exact absurd he hz
      injection he with hg hz20
      subst hz20
      subst hg
      obtain ⟨k0, k1, k2, k3, k4, k5, k6, k7, k8, k9, k10, k11⟩ := cfg_cells H3.out
      clear hz
      go_wp2_with fail
      refine (same_calls _ _ _ _ _ _ _ _ _ _ none none none none none 0 0 0 0 0 noCfg _ HIG.out (own_none _ w.heap.size).in_).mono ?_
      rintro e u ⟨rfl, hb⟩
      clear k0 k1 k2 k3 k4 k5 k6 k7 k8 k9 k10 k11
      go_wp2
      go_ret
      exact ⟨rfl, below_step HB3.out hb⟩
    subst hz
    have hd0 : (decD l0).2 = 0 := by rw [← HG.out]
    have hed := enc_dec l0 HLB.out hd0
    rw [← HG.out] at hed
    dsimp only at hed
    clear hd0
    have HED := Lib.hid hed
    obtain ⟨k0, k1, k2, k3, k4, k5, k6, k7, k8, k9, k10, k11⟩ := cfg_cells H3.out
    clear hed
    go_wp2_with fail
    refine (encode_calls _ _ _ _ _ _ _ _ _ _ G _ HIG.out (by have := enc_len0 HED.out; have := HL5.out; omega)).mono ?_
    rw [HED.out]
    rintro e W4 ⟨v4, rfl, hr4, hb4⟩
    obtain ⟨Av4, cv4, rfl, hcv4, hC4⟩ := Kd.R_reads hr4
    clear k0 k1 k2 k3 k4 k5 k6 k7 k8 k9 k10 k11
    dsimp only at hC4 hcv4 ⊢
    have HB4 := Lib.hid (below_step HB3.out hb4)
    have s1 : ∀ k, (convert 22 9 (.slice Av4 l0.length k)).run Try.prog W4 = .ok (.string (strOfNums l0)) W4 := fun k => Kd.C_string Try.underlying22 Try.underlying5 Try.underlying9 hC4
    have s2 : ∀ k, (convert 22 9 (.slice A0 l0.length k)).run Try.prog W4 = .ok (.string (strOfNums l0)) W4 := fun k => Kd.C_string Try.underlying22 Try.underlying5 Try.underlying9 (Kd.C_below HL.out HB4.out)
    clear hr4 hb4 hC4
    go_wp2
    go_ret
    exact ⟨rfl, HB4.out⟩
  · have hee := enc_err C
    rw [← HX.out] at hee
    rcases hee with he | he
    · exact absurd he hez
    injection he with hx1 hx2
    subst hx1
    subst hx2
    clear HX HD hez H2 HID
    go_wp2_with fail
    refine (decode_calls _ A0 c0 l0 (Kd.C_below HL.out HB.out) HLC.out HLB.out).mono ?_
    obtain ⟨⟨G, z⟩, hG⟩ : ∃ x, x = decD l0 := ⟨_, rfl⟩
    rw [← hG]
    have HG := Lib.hid hG
    clear hG
    rintro e W3 ⟨B1, B8, B9, B10, B11, d1, d8, d9, d10, d11, rfl, ho, hb⟩
    dsimp only
    have HIG := Lib.hid (ho.in_.below ((Below.refl W3.heap.size W3).alloc (Nat.le_refl _) (Obj.cells #[.int .i64 G.f0, .slice B1 G.f1.length d1, .int .i64 G.f2, .int .i64 G.f3, .int .i64 G.f4, .int .i64 G.f5, .int .i64 G.f6, .int .i64 G.f7, .slice B8 G.f8.length d8, .slice B9 G.f9.length d9, .slice B10 G.f10.length d10, .slice B11 G.f11.length d11] 29)))
    have HB3 := Lib.hid (below_step (below_step HB.out hb) ((Below.refl _ _).alloc (Nat.le_refl _) (Obj.cells #[.int .i64 G.f0, .slice B1 G.f1.length d1, .int .i64 G.f2, .int .i64 G.f3, .int .i64 G.f4, .int .i64 G.f5, .int .i64 G.f6, .int .i64 G.f7, .slice B8 G.f8.length d8, .slice B9 G.f9.length d9, .slice B10 G.f10.length d10, .slice B11 G.f11.length d11] 29)))
    have H3 := Lib.hid (blk_new W3 (Obj.cells #[.int .i64 G.f0, .slice B1 G.f1.length d1, .int .i64 G.f2, .int .i64 G.f3, .int .i64 G.f4, .int .i64 G.f5, .int .i64 G.f6, .int .i64 G.f7, .slice B8 G.f8.length d8, .slice B9 G.f9.length d9, .slice B10 G.f10.length d10, .slice B11 G.f11.length d11] 29))
    clear hb ho HB H0
    by_cases hz : z = 0
    case neg =>
      have hez := dec_err l0
      rw [← HG.out] at hez
      rcases hez with he | he
      · exact absurd he hz
      injection he with hg hz20
      subst hz20
      subst hg
      obtain ⟨k0, k1, k2, k3, k4, k5, k6, k7, k8, k9, k10, k11⟩ := cfg_cells H3.out
      clear hz
      go_wp2_with fail
      refine (same_calls _ _ _ _ _ _ _ _ _ _ none none none none none 0 0 0 0 0 noCfg _ HIG.out (own_none _ w.heap.size).in_).mono ?_
      rintro e u ⟨rfl, hb⟩
      clear k0 k1 k2 k3 k4 k5 k6 k7 k8 k9 k10 k11
      go_wp2
      go_ret
      exact ⟨rfl, below_step HB3.out hb⟩
    subst hz
    have hd0 : (decD l0).2 = 0 := by rw [← HG.out]
    have hed := enc_dec l0 HLB.out hd0
    rw [← HG.out] at hed
    dsimp only at hed
    clear hd0
    have HED := Lib.hid hed
    obtain ⟨k0, k1, k2, k3, k4, k5, k6, k7, k8, k9, k10, k11⟩ := cfg_cells H3.out
    clear hed
    go_wp2_with fail
    refine (encode_calls _ _ _ _ _ _ _ _ _ _ G _ HIG.out (by have := enc_len0 HED.out; have := HL5.out; omega)).mono ?_
    rw [HED.out]
    rintro e W4 ⟨v4, rfl, hr4, hb4⟩
    obtain ⟨Av4, cv4, rfl, hcv4, hC4⟩ := Kd.R_reads hr4
    clear k0 k1 k2 k3 k4 k5 k6 k7 k8 k9 k10 k11
    dsimp only at hC4 hcv4 ⊢
    have HB4 := Lib.hid (below_step HB3.out hb4)
    have s1 : ∀ k, (convert 22 9 (.slice Av4 l0.length k)).run Try.prog W4 = .ok (.string (strOfNums l0)) W4 := fun k => Kd.C_string Try.underlying22 Try.underlying5 Try.underlying9 hC4
    have s2 : ∀ k, (convert 22 9 (.slice A0 l0.length k)).run Try.prog W4 = .ok (.string (strOfNums l0)) W4 := fun k => Kd.C_string Try.underlying22 Try.underlying5 Try.underlying9 (Kd.C_below HL.out HB4.out)
    clear hr4 hb4 hC4
    go_wp2
    go_ret
    exact ⟨rfl, HB4.out⟩
end Go.Proofs.Ytehbabkgaecoaaa
