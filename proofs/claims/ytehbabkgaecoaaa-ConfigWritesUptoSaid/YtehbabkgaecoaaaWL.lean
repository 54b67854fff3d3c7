/- The walk of ConfigWrites. -/
import Derived.Test.YtehbabkgaecoaaaWC
import Derived.Test.YtehbabkgaecoaaaSM
import Derived.Test.YtehbabkgaecoaaaSP
import Derived.Test.YtehbabkgaecoaaaGrF
import Derived.Test.YtehbabkgaecoaaaOpenM
namespace Go.Proofs.Ytehbabkgaecoaaa
set_option linter.unusedVariables false
set_option linter.unusedSimpArgs false
open Go.RowKit Go.Shelf Go.Proofs.YtehbabkgaecoaaaW.PrintWords Go.Proofs.YtehbabkgaecoaaaW.PrintLast

set_option maxRecDepth 100000 in
set_option maxHeartbeats 32000000 in
theorem writes_calls (w : World) (A1 A8 A9 A10 A11 : Option Addr) (c1 c8 c9 c10 c11 : Nat) (C : S29) (h : CfgIn w C A1 A8 A9 A10 A11 c1 c8 c9 c10 c11) (_hC : CfgOk C) (hz : SzOk C) (hm : (cfgNums C).length ≤ 1048576) :
    Calls Try.prog 4 #[.agg #[.int .i64 C.f0, .slice A1 C.f1.length c1, .int .i64 C.f2, .int .i64 C.f3, .int .i64 C.f4, .int .i64 C.f5, .int .i64 C.f6, .int .i64 C.f7, .slice A8 C.f8.length c8, .slice A9 C.f9.length c9, .slice A10 C.f10.length c10, .slice A11 C.f11.length c11]] w fun e w' => e = .returned (.bool true) ∧ Below w.heap.size w w' := by
  have HR := Lib.hid h
  have HZ := Lib.hid hz
  have HM := Lib.hid hm
  have HB := Lib.hid (show Below w.heap.size w (w.alloc (Obj.cells #[.int .i64 C.f0, .slice A1 C.f1.length c1, .int .i64 C.f2, .int .i64 C.f3, .int .i64 C.f4, .int .i64 C.f5, .int .i64 C.f6, .int .i64 C.f7, .slice A8 C.f8.length c8, .slice A9 C.f9.length c9, .slice A10 C.f10.length c10, .slice A11 C.f11.length c11] 29)) from (Below.refl _ _).alloc (Nat.le_refl _) _)
  have H0 := Lib.hid (blk_new w (o := (Obj.cells #[.int .i64 C.f0, .slice A1 C.f1.length c1, .int .i64 C.f2, .int .i64 C.f3, .int .i64 C.f4, .int .i64 C.f5, .int .i64 C.f6, .int .i64 C.f7, .slice A8 C.f8.length c8, .slice A9 C.f9.length c9, .slice A10 C.f10.length c10, .slice A11 C.f11.length c11] 29)))
  clear h hz _hC hm
  go_enter Try.func4, Try.ntmps4
  obtain ⟨k0, k1, k2, k3, k4, k5, k6, k7, k8, k9, k10, k11⟩ := cfg_cells H0.out
  obtain ⟨gr, hgr⟩ : ∃ gr, gr = greatB C := ⟨_, rfl⟩
  have HG0 := Lib.hid hgr
  clear hgr
  go_wp2_with fail
  refine (great_calls _ _ _ _ _ _ _ _ _ _ C _ (HR.out.below HB.out)).mono ?_
  rintro e u ⟨rfl, hb⟩
  clear k0 k1 k2 k3 k4 k5 k6 k7 k8 k9 k10 k11
  replace H0 := Lib.hid (blk_keep hb H0.out)
  replace HB := Lib.hid (below_step HB.out hb)
  clear hb
  obtain ⟨k0, k1, k2, k3, k4, k5, k6, k7, k8, k9, k10, k11⟩ := cfg_cells H0.out
  rw [← HG0.out]
  clear HG0
  cases gr
  case true =>
    go_wp2
    go_ret
    exact ⟨rfl, HB.out⟩
  go_wp2_with fail
  refine (twin_own _ _ _ _ _ _ _ _ _ _ C _ (HR.out.below HB.out) HZ.out).mono ?_
  rintro e W1 ⟨B1, B8, B9, B10, B11, d1, d8, d9, d10, d11, rfl, ho, hb⟩
  clear k0 k1 k2 k3 k4 k5 k6 k7 k8 k9 k10 k11
  have hba : Below W1.heap.size W1 (W1.alloc (Obj.cells #[.int .i64 C.f0, .slice B1 C.f1.length d1, .int .i64 C.f2, .int .i64 C.f3, .int .i64 C.f4, .int .i64 C.f5, .int .i64 C.f6, .int .i64 C.f7, .slice B8 C.f8.length d8, .slice B9 C.f9.length d9, .slice B10 C.f10.length d10, .slice B11 C.f11.length d11] 29)) := (Below.refl _ _).alloc (Nat.le_refl _) _
  have HO := Lib.hid (ho.in_.below hba)
  have H2 := Lib.hid (blk_new W1 (Obj.cells #[.int .i64 C.f0, .slice B1 C.f1.length d1, .int .i64 C.f2, .int .i64 C.f3, .int .i64 C.f4, .int .i64 C.f5, .int .i64 C.f6, .int .i64 C.f7, .slice B8 C.f8.length d8, .slice B9 C.f9.length d9, .slice B10 C.f10.length d10, .slice B11 C.f11.length d11] 29))
  replace H0 := Lib.hid (blk_keep hba (blk_keep hb H0.out))
  replace HB := Lib.hid (below_step (below_step HB.out hb) hba)
  clear hb hba ho
  obtain ⟨k0, k1, k2, k3, k4, k5, k6, k7, k8, k9, k10, k11⟩ := cfg_cells H0.out
  go_wp2_with fail
  generalize hW2 : W1.alloc (Obj.cells #[.int .i64 C.f0, .slice B1 C.f1.length d1, .int .i64 C.f2, .int .i64 C.f3, .int .i64 C.f4, .int .i64 C.f5, .int .i64 C.f6, .int .i64 C.f7, .slice B8 C.f8.length d8, .slice B9 C.f9.length d9, .slice B10 C.f10.length d10, .slice B11 C.f11.length d11] 29) = W2 at *
  clear hW2
  refine (rencode_calls _ _ _ _ _ _ _ _ _ _ C _ (HR.out.below HB.out) (by have := HM.out; omega)).mono ?_
  rintro e W3 ⟨v1, rfl, hr1, hb⟩
  obtain ⟨⟨X, ez⟩, hX⟩ : ∃ x, x = encS C := ⟨_, rfl⟩
  rw [← hX] at hr1 ⊢
  have HX := Lib.hid hX
  clear hX
  dsimp only at hr1 ⊢
  obtain ⟨Aw, cw, rfl, hcw, hCw⟩ := Kd.R_reads hr1
  clear k0 k1 k2 k3 k4 k5 k6 k7 k8 k9 k10 k11
  have HW := Lib.hid hCw
  replace H0 := Lib.hid (blk_keep hb H0.out)
  replace H2 := Lib.hid (blk_keep hb H2.out)
  replace HO := Lib.hid (HO.out.below hb)
  replace HB := Lib.hid (below_step HB.out hb)
  have HS3 := Lib.hid HB.out.size
  clear hb hr1 hCw hcw
  obtain ⟨n0, n1, n2, n3, n4, n5, n6, n7, n8, n9, n10, n11⟩ := cfg_cells H2.out
  go_wp2_with fail
  refine (encode_calls _ _ _ _ _ _ _ _ _ _ C _ HO.out (by have := HM.out; omega)).mono ?_
  rintro e W4 ⟨v2, rfl, hra, hb⟩
  rw [← HX.out] at hra ⊢
  dsimp only at hra ⊢
  obtain ⟨Aa, ca, rfl, hca, hCa⟩ := Kd.R_reads hra
  clear n0 n1 n2 n3 n4 n5 n6 n7 n8 n9 n10 n11
  have HA := Lib.hid hra
  have HBA := Lib.hid hb
  replace H0 := Lib.hid (blk_keep hb H0.out)
  replace H2 := Lib.hid (blk_keep hb H2.out)
  replace HO := Lib.hid (HO.out.below hb)
  replace HB := Lib.hid (below_step HB.out hb)
  clear hb hra hca hCa
  obtain ⟨n0, n1, n2, n3, n4, n5, n6, n7, n8, n9, n10, n11⟩ := cfg_cells H2.out
  go_wp2_with fail
  refine (encode_calls _ _ _ _ _ _ _ _ _ _ C _ HO.out (by have := HM.out; omega)).mono ?_
  rintro e W5 ⟨v3, rfl, hrb, hb⟩
  rw [← HX.out] at hrb ⊢
  dsimp only at hrb ⊢
  obtain ⟨Ab, cb, rfl, hcb, hCb⟩ := Kd.R_reads hrb
  clear n0 n1 n2 n3 n4 n5 n6 n7 n8 n9 n10 n11
  have HBB := Lib.hid hb
  have HBO := Lib.hid hrb
  replace H0 := Lib.hid (blk_keep hb H0.out)
  replace H2 := Lib.hid (blk_keep hb H2.out)
  replace HO := Lib.hid (HO.out.below hb)
  replace HB := Lib.hid (below_step HB.out hb)
  clear hb hrb hcb hCb
  have HA5 := Lib.hid (show Kd.R kU 5 W5 W3.heap.size (fun k => k < W4.heap.size) (.slice Aa X.length ca) X from Kd.R_step (Kd.R_mono (Kd.R_bound HA.out) (fun k hk => hk.2.2.1)) (fun k hk _ => HBB.out.block k hk))
  have HW5 := Lib.hid (show Below W3.heap.size W3 W5 from below_step HBA.out HBB.out)
  have HXL := Lib.hid (show X.length ≤ 5000000 by
    have h1 : X = (encS C).1 := by rw [← HX.out]
    have h2 := HM.out
    rw [h1]
    unfold encS
    split
    · rw [List.length_append, enc_len]; simp only [List.length_cons, List.length_nil]; omega
    · simp)
  obtain ⟨k0, k1, k2, k3, k4, k5, k6, k7, k8, k9, k10, k11⟩ := cfg_cells H0.out
  obtain ⟨n0, n1, n2, n3, n4, n5, n6, n7, n8, n9, n10, n11⟩ := cfg_cells H2.out
  have s1 : ∀ k, (convert 22 9 (.slice Aa X.length k)).run Try.prog W5 = .ok (.string (strOfNums X)) W5 := fun k => Kd.C_string Try.underlying22 Try.underlying5 Try.underlying9 (Kd.R_reads' HA5.out).2.2
  have s2 : ∀ k, (convert 22 9 (.slice Aw X.length k)).run Try.prog W5 = .ok (.string (strOfNums X)) W5 := fun k => Kd.C_string Try.underlying22 Try.underlying5 Try.underlying9 (Kd.C_below HW.out HW5.out)
  clear HX
  go_wp2_with fail
  refine (same_calls _ _ _ _ _ _ _ _ _ _ _ _ _ _ _ _ _ _ _ _ C _ HO.out (HR.out.below HB.out)).mono ?_
  rintro e W6 ⟨rfl, hb⟩
  clear k0 k1 k2 k3 k4 k5 k6 k7 k8 k9 k10 k11 n0 n1 n2 n3 n4 n5 n6 n7 n8 n9 n10 n11 s1 s2 H0 H2 HO
  have HB6 := Lib.hid (below_step HB.out hb)
  have HW6 := Lib.hid (below_step HW5.out hb)
  have HA6 := Lib.hid (show Kd.R kU 5 W6 W3.heap.size (fun k => k < W4.heap.size) (.slice Aa X.length ca) X from Kd.R_step HA5.out (fun k _ hk => hb.block k hk))
  have HBO6 := Lib.hid (show Kd.R kU 5 W6 W4.heap.size (fun _ => True) (.slice Ab X.length cb) X from Kd.R_step HBO.out (fun k _ hk => hb.block k hk))
  have HS4 := Lib.hid HBA.out.size
  clear hb HA HBO HA5 HW5 HB HBA HBB
  go_wp2_with fail
  go_loopw [53] (fun i wr => ∃ (k : Nat) (xs : List Int), k ≤ X.length ∧ i = .int .i64 k ∧ xs.length = X.length ∧ Hid (Kd.R kU 5 wr W3.heap.size (fun k => k < W4.heap.size) (.slice Aa X.length ca) xs) ∧ Hid (Kd.R kU 5 wr W4.heap.size (fun _ => True) (.slice Ab X.length cb) X) ∧ Hid (Below W3.heap.size W3 wr) ∧ Hid (Below w.heap.size w wr)) (fun i _ => X.length - (intOf i).toNat)
  case atStart => exact ⟨0, X, by omega, rfl, rfl, HA6, HBO6, HW6, HB6⟩
  case round =>
    clear HA6 HBO6 HW6 HB6
    obtain ⟨k, xs, hk, rfl, hxl, HA, HBO, HW2, HB2⟩ := hrel
    have hX5 := HXL.out
    by_cases hlt : k < X.length
    · have ha := HA.out
      rw [← hxl] at ha
      obtain ⟨g, cs, v, hA, hg, hok, ⟨cells, hc⟩, hv, hcs, hf, hM, hS⟩ := seg1 ha 0 k (by omega) 0 (by decide)
      have hcs1 : cs = [.int .u8 (xs.getD k 0)] := kU.K_of_M hM
      obtain ⟨n, hn⟩ : ∃ n, n = xs.getD k 0 := ⟨_, rfl⟩
      rw [← hn] at hcs1
      subst hcs1
      obtain rfl : Value.int .u8 n = v := by simpa using hcs
      subst hA
      have e0 : k * kU.sz + 0 = k := by show k * 1 + 0 = k; omega
      rw [e0] at hv hf hS
      have HG := Lib.hid (And.intro hg hok)
      have HS' := Lib.hid (hS (.int .u8 (IntKind.u8.wrap (n + 1))) (IntKind.u8.wrap (n + 1)) rfl rfl)
      have HBN := Lib.hid (R_offb HBO.out hok k (.int .u8 (IntKind.u8.wrap (n + 1))))
      clear hM hS hcs hn ha hc hg hok
      go_wp2_with fail
      go_roundw
      case rel => exact ⟨k + 1, xs.set k (IntKind.u8.wrap (n + 1)), by omega, by go_num, by rw [List.length_set]; exact hxl, Lib.hid (by have := HS'.out; rw [hxl] at this; exact this), Lib.hid (Kd.R_mono HBN.out (fun _ _ => trivial)), Lib.hid (HW2.out.setCell (p := ⟨g, k, none⟩) HG.out.1 _), Lib.hid (HB2.out.setCell (p := ⟨g, k, none⟩) (Nat.le_trans HS3.out HG.out.1) _)⟩
      case measure => simp [intOf]; omega
    · have HXX := Lib.hid hxl
      have hxl5 : (xs.length + 1) * 1 ≤ 140737488355328 := by have := HXL.out; omega
      go_wp2_with (first | ((with_reducible refine gate_z (b := .append) (xs := #[.tmp 65, .tmp 66]) rfl ?_); at_builtin; refine Kd.R_append kU (w0 := W3) W3.heap.size rfl (.tmp 65) (.tmp 66) 22 5 (.int .u8 0) 1 rfl Try.underlying22 infoU rfl (Nat.zero_lt_one) (by omega) (.slice Aa X.length ca) xs 1 [.int .u8 1] (fun k => k < W4.heap.size ∨ wr.heap.size ≤ k) (fun _ => False) rfl rfl rfl (fun _ hk => hk.elim) (fun k hk => .inr hk) (Kd.R_mono HA.out (fun k hk => .inl hk)) HW2.out HW2.out.size hxl5 ?_; intro v5 W7 ho5 hb5 hg5 hat5; obtain ⟨A5, k5, hv5⟩ := Kd.R_slice ho5; rw [List.length_append, List.length_singleton, HXX.out] at hv5; subst hv5; have s3 : ∀ k, (convert 22 9 (.slice Ab X.length k)).run Try.prog W7 = .ok (.string (strOfNums X)) W7 := fun k => Kd.C_string Try.underlying22 Try.underlying5 Try.underlying9 (Kd.R_reads' (Kd.R_step (Kd.R_bound HBO.out) (fun k ho hk => hg5.block k hk (fun e => by have h1 := HA.out.1 k e.symm; have h2 := ho.2.1; omega)))).2.2; have s4 : ∀ k, (convert 22 9 (.slice Aw X.length k)).run Try.prog W7 = .ok (.string (strOfNums X)) W7 := fun k => Kd.C_string Try.underlying22 Try.underlying5 Try.underlying9 (Kd.C_below HW.out hb5); have HB7 := Lib.hid (show Below w.heap.size w W7 from (HB2.out.grown hg5 HB2.out.size (fun k e => by have h1 := HA.out.1 k e; have h2 := Kd.R_base HA.out k e; have h3 := HS3.out; omega))); clear ho5 hb5 hg5 hat5))
      go_ret
      exact ⟨rfl, HB7.out⟩
end Go.Proofs.Ytehbabkgaecoaaa
