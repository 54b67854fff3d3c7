/- The walk of GuardLets. -/
import Derived.Test.YtloibbfihkfeeaaRT
import Derived.Test.YtloibbfihkfeeaaGO
import Derived.Test.YtloibbfihkfeeaaGreat
namespace Go.Proofs.Ytloibbfihkfeeaa
set_option linter.unusedVariables false
set_option linter.unusedSimpArgs false
open Go.RowKit Go.Shelf Go.Proofs.YtloibbfihkfeeaaW.PrintWords Go.Proofs.YtloibbfihkfeeaaW.PrintLast

theorem kS_KM (w : World) (base : Nat) (ok : Nat → Prop) (x : Sh) (cs : List Value) (h : k32.K w x cs) : k32.M w base ok x cs := by
  rw [k32_open h]; exact k32_mkM _ _ _ x
set_option maxRecDepth 100000 in
set_option maxHeartbeats 16000000 in
theorem lets_calls (A1 A8 A9 A10 A11 : Option Addr) (c1 c8 c9 c10 c11 : Nat) (C : S28) (w : World) (h : CfgIn w C A1 A8 A9 A10 A11 c1 c8 c9 c10 c11) (hC : CfgOk C) (hz : SzOk C) (length offset : Int) (A : Option Addr) (c : Nat) (l : List Sh) (hr : Kd.C k32 w A l.length l) (hc : l.length ≤ c) :
    Calls Try.prog 4 #[.agg #[.int .i64 C.f0, .slice A1 C.f1.length c1, .int .i64 C.f2, .int .i64 C.f3, .int .i64 C.f4, .int .i64 C.f5, .int .i64 C.f6, .int .i64 C.f7, .slice A8 C.f8.length c8, .slice A9 C.f9.length c9, .slice A10 C.f10.length c10, .slice A11 C.f11.length c11], .agg #[.int .i64 length, .int .i64 offset], .slice A l.length c] w fun e w' => e = .returned (.bool true) ∧ Below w.heap.size w w' := by
  have HR := Lib.hid h
  have HCO := Lib.hid hC
  have HSZ := Lib.hid hz
  have HL := Lib.hid hr
  have HB := Lib.hid (show Below w.heap.size w ((w.alloc (Obj.cells #[.int .i64 C.f0, .slice A1 C.f1.length c1, .int .i64 C.f2, .int .i64 C.f3, .int .i64 C.f4, .int .i64 C.f5, .int .i64 C.f6, .int .i64 C.f7, .slice A8 C.f8.length c8, .slice A9 C.f9.length c9, .slice A10 C.f10.length c10, .slice A11 C.f11.length c11] 28)).alloc (Obj.cells #[.int .i64 length, .int .i64 offset] 30)) from ((Below.refl _ _).alloc (Nat.le_refl _) _).alloc (by simp) _)
  have HC := Lib.hid (blk_alloc (blk_new w (Obj.cells #[.int .i64 C.f0, .slice A1 C.f1.length c1, .int .i64 C.f2, .int .i64 C.f3, .int .i64 C.f4, .int .i64 C.f5, .int .i64 C.f6, .int .i64 C.f7, .slice A8 C.f8.length c8, .slice A9 C.f9.length c9, .slice A10 C.f10.length c10, .slice A11 C.f11.length c11] 28)) (Obj.cells #[.int .i64 length, .int .i64 offset] 30))
  have HK := Lib.hid (show ((w.alloc (Obj.cells #[.int .i64 C.f0, .slice A1 C.f1.length c1, .int .i64 C.f2, .int .i64 C.f3, .int .i64 C.f4, .int .i64 C.f5, .int .i64 C.f6, .int .i64 C.f7, .slice A8 C.f8.length c8, .slice A9 C.f9.length c9, .slice A10 C.f10.length c10, .slice A11 C.f11.length c11] 28)).alloc (Obj.cells #[.int .i64 length, .int .i64 offset] 30)).heap[w.heap.size + 1]? = some (Obj.cells #[.int .i64 length, .int .i64 offset] 30) from blk_new_at _ _ (by simp))
  clear h hC hz hr
  obtain ⟨gr, hgr⟩ : ∃ gr, gr = greatB C := ⟨_, rfl⟩
  have HG := Lib.hid hgr
  clear hgr
  go_enter Try.func4, Try.ntmps4
  go_wp2_with fail
  refine (great_calls _ _ _ _ _ _ _ _ _ _ C _ (HR.out.below HB.out)).mono ?_
  rintro e W1 ⟨rfl, hb⟩
  rw [← HG.out]
  replace HC := Lib.hid (blk_keep hb HC.out)
  replace HK := Lib.hid (blk_keep hb HK.out)
  replace HB := Lib.hid (below_step HB.out hb)
  clear hb
  cases gr
  case true =>
    go_wp2
    go_ret
    exact ⟨rfl, HB.out⟩
  by_cases h100 : l.length ≤ 100
  case neg =>
    have e100 : decide (100 < (l.length : Int)) = true := decide_eq_true (by omega)
    go_wp2
    go_ret
    exact ⟨rfl, HB.out⟩
  have e100 : decide (100 < (l.length : Int)) = false := decide_eq_false (by omega)
  have HL1 := Lib.hid (Kd.C_below HL.out HB.out)
  go_wp2_with (first
    | ((with_reducible refine gate_z (b := .append) (xs := #[.tmp 19, .tmp 20]) rfl ?_); at_builtin; refine Kd.R_append_rows k32 (Rr := k32.K W1) (w0 := W1) W1.heap.size rfl (.tmp 19) (.tmp 20) 45 32 (.agg #[.int .i64 0, .int .i64 0, .int .i64 0]) 24 rfl Try.underlying45 info32 rfl (by decide) (by omega) (.slice none 0 0) [] l A l.length c (fun _ => True) (fun _ => False) rfl rfl (Kd.R_nil _ _ _ _ _) HL1.out (fun x cs hk => kS_KM _ _ _ _ _ hk) (fun _ hk => hk.elim) (fun _ _ => trivial) (Below.refl _ _) (Nat.le_refl _) (by simp; omega) ?_; intro v1 W2 hr1 hb1 hg1 hat1; rw [List.nil_append] at hr1; obtain ⟨Av, cv, rfl⟩ := Kd.R_slice hr1; have HR1 := Lib.hid hr1; have HB1 := Lib.hid hb1; clear hr1 hb1 hg1 hat1)
    | ((with_reducible refine gate_z (b := .append) (xs := #[.tmp 21, .tmp 23]) rfl ?_); at_builtin; refine Kd.R_append k32 (w0 := W1) W1.heap.size rfl (.tmp 21) (.tmp 23) 45 32 (.agg #[.int .i64 0, .int .i64 0, .int .i64 0]) 24 rfl Try.underlying45 info32 rfl (by decide) (by omega) _ l ⟨77, 0, 0⟩ [.int .i64 77, .int .i64 0, .int .i64 0] (fun _ => True) (fun _ => False) rfl rfl (k32_mkM _ _ _ ⟨77, 0, 0⟩) (fun _ hk => hk.elim) (fun _ _ => trivial) HR1.out HB1.out HB1.out.size (by omega) ?_; intro v3 W3 hr3 hb3 hg3 hat3; obtain ⟨Ao, co, rfl, hco, hCo⟩ := Kd.R_reads hr3; have HCo := Lib.hid hCo; have HB3 := Lib.hid hb3; clear hr3 hb3 hg3 hat3 hCo))
  clear e100
  have HC3 := Lib.hid (blk_keep HB3.out HC.out)
  have HK3 := Lib.hid (blk_keep HB3.out HK.out)
  have HBw := Lib.hid (below_step HB.out HB3.out)
  have HCl := Lib.hid (show Kd.C k32 W3 Ao l.length l by
    have := Kd.C_take (m := l.length) HCo.out (by simp)
    simpa using this)
  have hco' : l.length + 1 ≤ co := by simpa using hco
  obtain ⟨i0, hi0, -, -, -⟩ := info_parts info32
  have hcut := cut_to (P := Try.prog) 45 32 .i64 Try.underlying45 hi0 Ao (l.length + 1) co (l.length : Int) (by omega) (by omega) hco'
  rw [Int.toNat_natCast] at hcut
  obtain ⟨g0, g1, g2, g3, g4, g5, g6, g7, g8, g9, g10, g11⟩ := cfg_cells HC3.out
  have k0 := blk_cell HK3.out 0
  have k1 := blk_cell HK3.out 1
  obtain ⟨n, hn⟩ : ∃ n, n = mayW C length offset l := ⟨_, rfl⟩
  have HNN := Lib.hid hn
  clear hn hco hi0
  obtain ⟨res, hres⟩ : ∃ res : List Int, res = (if mayW C length offset l = 0 then thr C length offset l l.length else []) := ⟨_, rfl⟩
  have HRS := Lib.hid hres
  clear hres
  refine region_flat (S := Bw W3) (N := 15) (σ := Value) (ds := []) (fun z => [(26, .agg #[.int .i64 C.f0, .slice A1 C.f1.length c1, .int .i64 C.f2, .int .i64 C.f3, .int .i64 C.f4, .int .i64 C.f5, .int .i64 C.f6, .int .i64 C.f7, .slice A8 C.f8.length c8, .slice A9 C.f9.length c9, .slice A10 C.f10.length c10, .slice A11 C.f11.length c11]), (27, .pointer (some ⟨w.heap.size + 1, 0, none⟩)), (28, .int .i64 length), (29, .pointer (some ⟨w.heap.size + 1, 1, none⟩)), (30, .int .i64 offset), (31, .slice Ao (l.length + 1) co), (32, .slice A l.length c), (33, .int .i64 l.length), (34, .slice Ao l.length co), (35, .tuple #[z, .int .i64 n]), (25, .tuple #[z, .int .i64 n]), (36, z), (37, .int .i64 n), (8, z), (9, .int .i64 n)]) (fun z w' => Kd.R kI 3 w' W3.heap.size (fun _ => True) z res ∧ Below W3.heap.size W3 w') #[false, false, false, false, false, false, false, false, false, false, false, false, false, false, false] (Bw.drew0 W3) (by kernel_rfl) rfl rfl ?_ ?_
  · have hS := Bw.drew0 W3
    generalize W3.drew = Wd at hS ⊢
    refine take_ (i := 0) (N := some 26) (v := ?_) (a' := ?_) #[true, false, false, false, false, false, false, false, false, false, false, false, false, false, false] rfl rfl (by kernel_rfl) (fun _ _ _ h => by cases h.1) (Or.inl ⟨by rfl, ?_⟩) hS ?_ ?_
    rotate_left
    · intro w' hb
      have s0 := hb.cell g0
      have s1 := hb.cell g1
      have s2 := hb.cell g2
      have s3 := hb.cell g3
      have s4 := hb.cell g4
      have s5 := hb.cell g5
      have s6 := hb.cell g6
      have s7 := hb.cell g7
      have s8 := hb.cell g8
      have s9 := hb.cell g9
      have s10 := hb.cell g10
      have s11 := hb.cell g11
      go_simp
      with_reducible rfl
    rotate_left
    · simp only [Act.put, List.setIfInBounds_toArray, List.set_cons_zero, List.set_cons_succ]
      rfl
    refine pure_ (i := 1) (N := some 27) (v := ?_) (a' := ?_) #[true, true, false, false, false, false, false, false, false, false, false, false, false, false, false] rfl rfl (by kernel_rfl) (fun _ _ _ h => by cases h.1) (Or.inl ⟨by rfl, ?_⟩) ?_ ?_
    rotate_left
    · intro w'
      go_simp
      with_reducible rfl
    rotate_left
    · simp only [Act.put, List.setIfInBounds_toArray, List.set_cons_zero, List.set_cons_succ]
      rfl
    refine take_ (i := 2) (N := some 28) (v := ?_) (a' := ?_) #[true, true, true, false, false, false, false, false, false, false, false, false, false, false, false] rfl rfl (by kernel_rfl) (fun _ _ _ h => by cases h.1) (Or.inl ⟨by rfl, ?_⟩) hS ?_ ?_
    rotate_left
    · intro w' hb
      have s0 := hb.cell k0
      go_simp
      with_reducible rfl
    rotate_left
    · simp only [Act.put, List.setIfInBounds_toArray, List.set_cons_zero, List.set_cons_succ]
      rfl
    refine pure_ (i := 3) (N := some 29) (v := ?_) (a' := ?_) #[true, true, true, true, false, false, false, false, false, false, false, false, false, false, false] rfl rfl (by kernel_rfl) (fun _ _ _ h => by cases h.1) (Or.inl ⟨by rfl, ?_⟩) ?_ ?_
    rotate_left
    · intro w'
      go_simp
      with_reducible rfl
    rotate_left
    · simp only [Act.put, List.setIfInBounds_toArray, List.set_cons_zero, List.set_cons_succ]
      rfl
    refine take_ (i := 4) (N := some 30) (v := ?_) (a' := ?_) #[true, true, true, true, true, false, false, false, false, false, false, false, false, false, false] rfl rfl (by kernel_rfl) (fun _ _ _ h => by cases h.1) (Or.inl ⟨by rfl, ?_⟩) hS ?_ ?_
    rotate_left
    · intro w' hb
      have s0 := hb.cell k1
      go_simp
      with_reducible rfl
    rotate_left
    · simp only [Act.put, List.setIfInBounds_toArray, List.set_cons_zero, List.set_cons_succ]
      rfl
    refine pure_ (i := 5) (N := some 31) (v := ?_) (a' := ?_) #[true, true, true, true, true, true, false, false, false, false, false, false, false, false, false] rfl rfl (by kernel_rfl) (fun _ _ _ h => by cases h.1) (Or.inl ⟨by rfl, ?_⟩) ?_ ?_
    rotate_left
    · intro w'
      go_simp
      with_reducible rfl
    rotate_left
    · simp only [Act.put, List.setIfInBounds_toArray, List.set_cons_zero, List.set_cons_succ]
      rfl
    refine pure_ (i := 6) (N := some 32) (v := ?_) (a' := ?_) #[true, true, true, true, true, true, true, false, false, false, false, false, false, false, false] rfl rfl (by kernel_rfl) (fun _ _ _ h => by cases h.1) (Or.inl ⟨by rfl, ?_⟩) ?_ ?_
    rotate_left
    · intro w'
      go_simp
      with_reducible rfl
    rotate_left
    · simp only [Act.put, List.setIfInBounds_toArray, List.set_cons_zero, List.set_cons_succ]
      rfl
    refine pure_ (i := 7) (N := some 33) (v := ?_) (a' := ?_) #[true, true, true, true, true, true, true, true, false, false, false, false, false, false, false] rfl rfl (by kernel_rfl) (fun _ _ _ h => by cases h.1) (Or.inl ⟨by rfl, ?_⟩) ?_ ?_
    rotate_left
    · intro w'
      go_simp
      with_reducible rfl
    rotate_left
    · simp only [Act.put, List.setIfInBounds_toArray, List.set_cons_zero, List.set_cons_succ]
      rfl
    refine pure_ (i := 8) (N := some 34) (v := ?_) (a' := ?_) #[true, true, true, true, true, true, true, true, true, false, false, false, false, false, false] rfl rfl (by kernel_rfl) (fun _ _ _ h => by cases h.1) (Or.inl ⟨by rfl, ?_⟩) ?_ ?_
    rotate_left
    · intro w'
      go_simp
      with_reducible rfl
    rotate_left
    · simp only [Act.put, List.setIfInBounds_toArray, List.set_cons_zero, List.set_cons_succ]
      rfl
    refine one_ (i := 9) (N := some 35) #[true, true, true, true, true, true, true, true, true, true, false, false, false, false, false] rfl rfl (by kernel_rfl) (by simp) (fun K hK => ?_)
    go_simp
    refine (through_calls _ _ _ _ _ _ _ _ _ _ C _ ((HR.out.below HBw.out).below hS) length offset Ao co l (Kd.C_below HCl.out hS) (by omega)).mono ?_
    rintro e u9 ⟨v2, rfl, hR2, hb⟩
    rw [← HRS.out] at hR2
    rw [← HNN.out]
    have hS9 : Bw W3 u9 := Below.trans hS (hb.mono hS.size)
    refine hK.out _ _ hS9 (fun _ => ?_)
    clear hK K hb
    refine pure_ (i := 10) (N := some 25) (v := ?_) (a' := ?_) #[true, true, true, true, true, true, true, true, true, true, true, false, false, false, false] rfl rfl (by kernel_rfl) (fun _ _ _ h => by cases h.1) (Or.inl ⟨by rfl, ?_⟩) ?_ ?_
    rotate_left
    · intro w'
      go_simp
      with_reducible rfl
    rotate_left
    · simp only [Act.put, List.setIfInBounds_toArray, List.set_cons_zero, List.set_cons_succ]
      rfl
    refine pure_ (i := 11) (N := some 36) (v := ?_) (a' := ?_) #[true, true, true, true, true, true, true, true, true, true, true, true, false, false, false] rfl rfl (by kernel_rfl) (fun _ _ _ h => by cases h.1) (Or.inl ⟨by rfl, ?_⟩) ?_ ?_
    rotate_left
    · intro w'
      go_simp
      with_reducible rfl
    rotate_left
    · simp only [Act.put, List.setIfInBounds_toArray, List.set_cons_zero, List.set_cons_succ]
      rfl
    refine pure_ (i := 12) (N := some 37) (v := ?_) (a' := ?_) #[true, true, true, true, true, true, true, true, true, true, true, true, true, false, false] rfl rfl (by kernel_rfl) (fun _ _ _ h => by cases h.1) (Or.inl ⟨by rfl, ?_⟩) ?_ ?_
    rotate_left
    · intro w'
      go_simp
      with_reducible rfl
    rotate_left
    · simp only [Act.put, List.setIfInBounds_toArray, List.set_cons_zero, List.set_cons_succ]
      rfl
    refine pure_ (i := 13) (N := some 8) (v := ?_) (a' := ?_) #[true, true, true, true, true, true, true, true, true, true, true, true, true, true, false] rfl rfl (by kernel_rfl) (fun _ _ _ h => by cases h.1) (Or.inl ⟨by rfl, ?_⟩) ?_ ?_
    rotate_left
    · intro w'
      go_simp
      with_reducible rfl
    rotate_left
    · simp only [Act.put, List.setIfInBounds_toArray, List.set_cons_zero, List.set_cons_succ]
      rfl
    refine pure_ (i := 14) (N := some 9) (v := ?_) (a' := ?_) #[true, true, true, true, true, true, true, true, true, true, true, true, true, true, true] rfl rfl (by kernel_rfl) (fun _ _ _ h => by cases h.1) (Or.inl ⟨by rfl, ?_⟩) ?_ ?_
    rotate_left
    · intro w'
      go_simp
      with_reducible rfl
    rotate_left
    · simp only [Act.put, List.setIfInBounds_toArray, List.set_cons_zero, List.set_cons_succ]
      rfl
    refine done_ (by kernel_rfl) ?_
    exact ⟨rfl, v2, by simp only [putAll, Act.put, List.setIfInBounds_toArray, List.set_cons_zero, List.set_cons_succ], Kd.R_lower hR2 hS.size, hS9⟩
  rintro z W4 ⟨hR4, hB4⟩
  simp only [putAll, Act.put, List.setIfInBounds_toArray, List.set_cons_zero, List.set_cons_succ]
  obtain ⟨Az, cz, rfl, -, hCz⟩ := Kd.R_reads hR4
  have HCz := Lib.hid hCz
  have HC4 := Lib.hid (blk_keep hB4 HC3.out)
  have HK4 := Lib.hid (blk_keep hB4 HK3.out)
  have HB4 := Lib.hid (below_step HBw.out hB4)
  have HCo4 := Lib.hid (Kd.C_below HCo.out hB4)
  clear hR4 hB4 hCz hcut g0 g1 g2 g3 g4 g5 g6 g7 g8 g9 g10 g11 k0 k1
  obtain ⟨g0, g1, g2, g3, g4, g5, g6, g7, g8, g9, g10, g11⟩ := cfg_cells HC4.out
  have k0 := blk_cell HK4.out 0
  have k1 := blk_cell HK4.out 1
  go_wp2_with fail
  refine (rmay_calls _ _ _ _ _ _ _ _ _ _ C _ (HR.out.below HB4.out) HCO.out HSZ.out length offset A c l (Kd.C_below HL.out HB4.out)).mono ?_
  rintro e W5 ⟨rfl, hb⟩
  rw [← HNN.out]
  clear g0 g1 g2 g3 g4 g5 g6 g7 g8 g9 g10 g11 k0 k1
  have HC5 := Lib.hid (blk_keep hb HC4.out)
  have HK5 := Lib.hid (blk_keep hb HK4.out)
  have HB5 := Lib.hid (below_step HB4.out hb)
  have HCo5 := Lib.hid (Kd.C_below HCo4.out hb)
  have HCz5 := Lib.hid (Kd.C_below HCz.out hb)
  clear hb HC4 HK4 HB4 HCo4 HCz
  go_wp2
  go_loopw [47] (fun i W => ∃ j : Nat, j ≤ l.length ∧ i = .int .i64 j ∧ Hid (Below W5.heap.size W5 W)) (fun i _ => l.length - (intOf i).toNat)
  case atStart => exact ⟨0, by omega, rfl, Lib.hid (Below.refl _ _)⟩
  case round =>
    obtain ⟨j, hj, rfl, HB6⟩ := hrel
    by_cases hlj : j < l.length
    · obtain ⟨ad, p, e1, p0, p1, p2, HP⟩ := at_S (Kd.C_below HL.out (below_step HB5.out HB6.out)) j hlj
      obtain ⟨bd, q, e2, q0, q1, q2, HQ⟩ := at_S (Kd.C_below HCo5.out HB6.out) j (by simp; omega)
      obtain rfl : p = q := by
        have := HQ.out
        rw [List.getElem?_append_left hlj, HP.out] at this
        injection this
      subst e1
      subst e2
      go_wp2
      go_quiet (fail)
      go_wp2
      go_roundw
      case rel => exact ⟨j + 1, by omega, by go_num, Lib.hid (pw_below_drewN HB6.out _)⟩
      case measure => simp [intOf]; omega
    · have HC6 := Lib.hid (blk_keep HB6.out HC5.out)
      have HK6 := Lib.hid (blk_keep HB6.out HK5.out)
      have HB6w := Lib.hid (below_step HB5.out HB6.out)
      by_cases h0 : n = 0
      case neg =>
        have e0 : (n != 0) = true := by simpa using h0
        have hr0 : res = [] := by rw [HRS.out, if_neg (by rw [← HNN.out]; exact h0)]
        subst hr0
        clear h0
        go_wp2
        go_ret
        exact ⟨rfl, HB6w.out⟩
      subst h0
      have HTH := Lib.hid (show thr C length offset l l.length = res by rw [HRS.out, if_pos HNN.out.symm])
      obtain ⟨g0, g1, g2, g3, g4, g5, g6, g7, g8, g9, g10, g11⟩ := cfg_cells HC6.out
      have k0 := blk_cell HK6.out 0
      have k1 := blk_cell HK6.out 1
      go_wp2_with fail
      refine (rthrough_calls _ _ _ _ _ _ _ _ _ _ C _ (HR.out.below HB6w.out) length offset A c l (Kd.C_below HL.out HB6w.out) HNN.out.symm (by omega)).mono ?_
      rintro e W7 ⟨v7, rfl, hR7, hb⟩
      rw [HTH.out] at hR7
      obtain ⟨A7, c7, rfl, -, hC7⟩ := Kd.R_reads hR7
      have HC7 := Lib.hid hC7
      have HB7 := Lib.hid (below_step HB6.out hb)
      clear hR7 hC7 hb g0 g1 g2 g3 g4 g5 g6 g7 g8 g9 g10 g11 k0 k1
      go_wp2_with fail
      refine (rints_calls Az A7 cz c7 res _ (Kd.C_below HCz5.out HB7.out) HC7.out).mono ?_
      rintro e W8 ⟨rfl, hb⟩
      have HB8 := Lib.hid (below_step HB7.out hb)
      clear hb
      obtain ⟨bd, q, e2, q0, -, -, HQ⟩ := at_S (Kd.C_below HCo5.out HB8.out) l.length (by simp)
      have hq0 : q.f0 = 77 := by
        have := HQ.out
        rw [List.getElem?_append_right (Nat.le_refl _)] at this
        simp at this
        rw [← this]
      rw [hq0] at q0
      subst e2
      clear hq0
      go_wp2
      go_ret
      exact ⟨rfl, below_step HB5.out HB8.out⟩
theorem lets_row (w : World) (A1 A8 A9 A10 A11 : Option Addr) (c1 c8 c9 c10 c11 : Nat) (C : S28) (h : CfgIn w C A1 A8 A9 A10 A11 c1 c8 c9 c10 c11) (hC : CfgOk C) (hz : SzOk C) (x : Int × Int) (_hx : I64 x.1 ∧ I64 x.2) (A : Option Addr) (c : Nat) (l : List Sh) (hr : Kd.C k32 w A l.length l) (hc : l.length ≤ c) (_hl : l.length ≤ maxLen ∧ ∀ x ∈ l, ShotI x) :
    Calls Try.prog 4 #[.agg #[.int .i64 C.f0, .slice A1 C.f1.length c1, .int .i64 C.f2, .int .i64 C.f3, .int .i64 C.f4, .int .i64 C.f5, .int .i64 C.f6, .int .i64 C.f7, .slice A8 C.f8.length c8, .slice A9 C.f9.length c9, .slice A10 C.f10.length c10, .slice A11 C.f11.length c11], .agg #[.int .i64 x.1, .int .i64 x.2], .slice A l.length c] w fun e w' => e = .returned (.bool true) ∧ Below w.heap.size w w' :=
  lets_calls _ _ _ _ _ _ _ _ _ _ C w h hC hz x.1 x.2 A c l hr hc
end Go.Proofs.Ytloibbfihkfeeaa
