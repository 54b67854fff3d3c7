/- The walk of GuardApart. -/
import Derived.Test.YtloibbfihkfeeaaGAp
import Derived.Test.YtloibbfihkfeeaaGJ
import Derived.Test.YtloibbfihkfeeaaRegE
import Derived.Test.YtloibbfihkfeeaaGreat
namespace Go.Proofs.Ytloibbfihkfeeaa
set_option linter.unusedVariables false
set_option linter.unusedSimpArgs false
open Go.RowKit Go.Shelf Go.Proofs.YtloibbfihkfeeaaW.PrintWords Go.Proofs.YtloibbfihkfeeaaW.PrintLast

theorem may_one {C : S28} {length offset : Int} {l : List Sh} {k : Nat} {x : Sh} (h : mayW C length offset l = 0) (hx : l[k]? = some x) : mayW C length offset [x] = 0 := by
  obtain ⟨h0, h1, h2, h3, h4, h5, h6⟩ := may_bounds h
  unfold mayW
  rw [if_neg (by rw [h0]; simp), if_neg (by omega), if_neg (by omega), if_pos]
  simpa using List.all_eq_true.1 h6 x (List.mem_of_getElem? hx)
theorem met_succ {l : List Sh} {out : List Int} {j : Nat} {x y : Sh} {o : Int} (hy : l[j]? = some y) (ho : out[j]? = some o) : metP l out (j + 1) x ↔ metP l out j x ∨ (o = 0 ∧ y.f1 < x.f2 ∧ x.f1 < y.f2 ∧ y.f1 < y.f2 ∧ x.f1 < x.f2) := by
  unfold metP
  constructor
  · rintro ⟨m, hm, z, hz, h0, r⟩
    by_cases hmj : m = j
    · subst hmj
      rw [hy] at hz
      rw [ho] at h0
      cases hz
      cases h0
      exact .inr ⟨rfl, r⟩
    · exact .inl ⟨m, by omega, z, hz, h0, r⟩
  · rintro (⟨m, hm, r⟩ | ⟨rfl, r⟩)
    · exact ⟨m, by omega, r⟩
    · exact ⟨j, by omega, y, hy, ho, r⟩
set_option maxRecDepth 100000 in
set_option maxHeartbeats 16000000 in
theorem apart_calls (A1 A8 A9 A10 A11 : Option Addr) (c1 c8 c9 c10 c11 : Nat) (C : S28) (w : World) (h : CfgIn w C A1 A8 A9 A10 A11 c1 c8 c9 c10 c11) (length offset : Int) (hk1 : I64 length) (hk2 : I64 offset) (A : Option Addr) (c : Nat) (l : List Sh) (hr : Kd.C k32 w A l.length l) (hc : l.length ≤ c) :
    Calls Try.prog 9 #[.agg #[.int .i64 C.f0, .slice A1 C.f1.length c1, .int .i64 C.f2, .int .i64 C.f3, .int .i64 C.f4, .int .i64 C.f5, .int .i64 C.f6, .int .i64 C.f7, .slice A8 C.f8.length c8, .slice A9 C.f9.length c9, .slice A10 C.f10.length c10, .slice A11 C.f11.length c11], .agg #[.int .i64 length, .int .i64 offset], .slice A l.length c] w fun e w' => e = .returned (.bool true) ∧ Below w.heap.size w w' := by
  have HR := Lib.hid h
  have HL := Lib.hid hr
  have HB := Lib.hid (show Below w.heap.size w ((w.alloc (Obj.cells #[.int .i64 C.f0, .slice A1 C.f1.length c1, .int .i64 C.f2, .int .i64 C.f3, .int .i64 C.f4, .int .i64 C.f5, .int .i64 C.f6, .int .i64 C.f7, .slice A8 C.f8.length c8, .slice A9 C.f9.length c9, .slice A10 C.f10.length c10, .slice A11 C.f11.length c11] 28)).alloc (Obj.cells #[.int .i64 length, .int .i64 offset] 30)) from ((Below.refl _ _).alloc (Nat.le_refl _) _).alloc (by simp) _)
  have HC := Lib.hid (blk_alloc (blk_new w (Obj.cells #[.int .i64 C.f0, .slice A1 C.f1.length c1, .int .i64 C.f2, .int .i64 C.f3, .int .i64 C.f4, .int .i64 C.f5, .int .i64 C.f6, .int .i64 C.f7, .slice A8 C.f8.length c8, .slice A9 C.f9.length c9, .slice A10 C.f10.length c10, .slice A11 C.f11.length c11] 28)) (Obj.cells #[.int .i64 length, .int .i64 offset] 30))
  have HK := Lib.hid (show ((w.alloc (Obj.cells #[.int .i64 C.f0, .slice A1 C.f1.length c1, .int .i64 C.f2, .int .i64 C.f3, .int .i64 C.f4, .int .i64 C.f5, .int .i64 C.f6, .int .i64 C.f7, .slice A8 C.f8.length c8, .slice A9 C.f9.length c9, .slice A10 C.f10.length c10, .slice A11 C.f11.length c11] 28)).alloc (Obj.cells #[.int .i64 length, .int .i64 offset] 30)).heap[w.heap.size + 1]? = some (Obj.cells #[.int .i64 length, .int .i64 offset] 30) from blk_new_at _ _ (by simp))
  have HK1 := Lib.hid hk1
  clear h hr hk1 hk2
  go_enter Try.func9, Try.ntmps9
  go_wp2_with fail
  refine (alive_calls _).mono ?_
  rintro e W1 ⟨rfl, hb⟩
  replace HC := Lib.hid (blk_keep hb HC.out)
  replace HK := Lib.hid (blk_keep hb HK.out)
  replace HB := Lib.hid (below_step HB.out hb)
  clear hb
  obtain ⟨g0, g1, g2, g3, g4, g5, g6, g7, g8, g9, g10, g11⟩ := cfg_cells HC.out
  obtain ⟨gr, hgr⟩ : ∃ gr, gr = greatB C := ⟨_, rfl⟩
  have HG := Lib.hid hgr
  clear hgr
  go_wp2_with fail
  refine (great_calls _ _ _ _ _ _ _ _ _ _ C _ (HR.out.below HB.out)).mono ?_
  rintro e W2 ⟨rfl, hb⟩
  rw [← HG.out]
  clear g0 g1 g2 g3 g4 g5 g6 g7 g8 g9 g10 g11
  replace HC := Lib.hid (blk_keep hb HC.out)
  replace HK := Lib.hid (blk_keep hb HK.out)
  replace HB := Lib.hid (below_step HB.out hb)
  clear hb
  cases gr
  case true =>
    go_wp2
    go_ret
    exact ⟨rfl, HB.out⟩
  by_cases h60 : l.length ≤ 60
  case neg =>
    have e60 : decide (60 < (l.length : Int)) = true := decide_eq_true (by omega)
    go_wp2
    go_ret
    exact ⟨rfl, HB.out⟩
  have e60 : decide (60 < (l.length : Int)) = false := decide_eq_false (by omega)
  have k0 := blk_cell HK.out 0
  have k1 := blk_cell HK.out 1
  obtain ⟨g0, g1, g2, g3, g4, g5, g6, g7, g8, g9, g10, g11⟩ := cfg_cells HC.out
  obtain ⟨n, hn⟩ : ∃ n, n = mayW C length offset l := ⟨_, rfl⟩
  have HNN := Lib.hid hn
  clear hn
  go_wp2_with fail
  refine (through_calls _ _ _ _ _ _ _ _ _ _ C _ (HR.out.below HB.out) length offset A c l (Kd.C_below HL.out HB.out) (by omega)).mono ?_
  rintro e V1 ⟨v1, rfl, hR1, hb⟩
  rw [← HNN.out] at hR1 ⊢
  clear g0 g1 g2 g3 g4 g5 g6 g7 g8 g9 g10 g11 k0 k1
  replace HC := Lib.hid (blk_keep hb HC.out)
  replace HK := Lib.hid (blk_keep hb HK.out)
  replace HB := Lib.hid (below_step HB.out hb)
  clear hb
  by_cases h0 : n = 0
  case neg =>
    have e0 : (n != 0) = true := by simpa using h0
    rw [if_neg h0] at hR1
    obtain ⟨A1', d1, rfl, -, -⟩ := Kd.R_reads hR1
    clear h0 hR1
    go_wp2
    go_ret
    exact ⟨rfl, HB.out⟩
  rw [if_pos h0] at hR1
  obtain ⟨A1', d1, rfl, -, hC1⟩ := Kd.R_reads hR1
  have HC1 := Lib.hid hC1
  rw [thr_len]
  clear hR1 hC1
  subst h0
  obtain ⟨out, hout⟩ : ∃ out, out = thr C length offset l l.length := ⟨_, rfl⟩
  have hol : out.length = l.length := by rw [hout, thr_len]
  rw [← hout] at HC1
  have HOUT := Lib.hid hout
  have HOL := Lib.hid hol
  clear hout hol
  rw [HOL.out] at HC1
  go_wp2
  go_loopw [54] (fun i wr => ∃ k : Nat, k ≤ l.length ∧ i = .int .i64 k ∧ Hid (Below V1.heap.size V1 wr)) (fun i _ => l.length - (intOf i).toNat)
  case atStart => exact ⟨0, by omega, rfl, Lib.hid (Below.refl _ _)⟩
  case round =>
    obtain ⟨k, hk, rfl, HB2⟩ := hrel
    by_cases hlt : k < l.length
    · obtain ⟨ad, x, e1, p0, p1, p2, HX⟩ := at_S (Kd.C_below HL.out (below_step HB.out HB2.out)) k hlt
      subst e1
      go_wp2
      go_loopw [11, 12] (fun v0 i wr => ∃ (j : Nat) (b : Bool), j ≤ k ∧ i = .int .i64 j ∧ .bool b = v0 ∧ Hid (b = true ↔ metP l out j x) ∧ Hid (Below V1.heap.size V1 wr)) (fun _ i _ => k - (intOf i).toNat)
      case atStart => exact ⟨0, false, by omega, rfl, rfl, Lib.hid (by simp [metP]), HB2⟩
      case round => as_aux_lemma =>
        have HX0 := HX
        obtain ⟨j, b, hj, rfl, rfl, HM, HBj⟩ := hrel
        by_cases hlj : j < k
        · obtain ⟨ad', y, e1, q0, q1, q2, HY⟩ := at_S (Kd.C_below HL.out (below_step HB.out HBj.out)) j (by omega)
          cases e1
          obtain ⟨ad', x', e1, x0, x1, x2, HX'⟩ := at_S (Kd.C_below HL.out (below_step HB.out HBj.out)) k hlt
          cases e1
          obtain rfl : x = x' := by have := HX.out.symm.trans HX'.out; injection this
          obtain ⟨ao, o, e2, o0, HO⟩ := at_I (Kd.C_below (by have := HC1.out; rwa [← HOL.out] at this) HBj.out) j (by rw [HOL.out]; omega)
          subst e2
          have HMS := Lib.hid (met_succ (x := x) HY.out HO.out)
          clear q0 x0
          have hjl : j < l.length := by omega
          cases b
          case true =>
            go_wp2
            go_quiet (fail)
            clear o0 q1 q2 x1 x2
            go_wp2
            go_roundw
            case rel => exact ⟨j + 1, true, by omega, by go_num, rfl, Lib.hid (by rw [HMS.out]; exact ⟨fun _ => .inl (HM.out.1 (by simp)), fun _ => by simp⟩), Lib.hid (pw_below_drewN HBj.out _)⟩
            case measure => simp [intOf]; omega
          by_cases c0 : o = 0
          case neg =>
            have e0 : (o == 0) = false := by simpa using c0
            go_wp2
            go_quiet (fail)
            clear o0 q1 q2 x1 x2
            go_wp2
            go_roundw
            case rel => exact ⟨j + 1, false, by omega, by go_num, rfl, Lib.hid (by rw [HMS.out]; exact ⟨fun h => by simp at h, fun h => by rcases h with h | h; exact HM.out.2 h; omega⟩), Lib.hid (pw_below_drewN HBj.out _)⟩
            case measure => simp [intOf]; omega
          have e0 : (o == 0) = true := by simpa using c0
          by_cases c1 : y.f1 < x.f2
          case neg =>
            have e1 : decide (y.f1 < x.f2) = false := decide_eq_false c1
            go_wp2
            go_quiet (fail)
            clear o0 q1 q2 x1 x2
            go_wp2
            go_roundw
            case rel => exact ⟨j + 1, false, by omega, by go_num, rfl, Lib.hid (by rw [HMS.out]; exact ⟨fun h => by simp at h, fun h => by rcases h with h | h; exact HM.out.2 h; omega⟩), Lib.hid (pw_below_drewN HBj.out _)⟩
            case measure => simp [intOf]; omega
          have e1 : decide (y.f1 < x.f2) = true := decide_eq_true c1
          by_cases c2 : x.f1 < y.f2
          case neg =>
            have e2 : decide (x.f1 < y.f2) = false := decide_eq_false c2
            go_wp2
            go_quiet (fail)
            clear o0 q1 q2 x1 x2
            go_wp2
            go_roundw
            case rel => exact ⟨j + 1, false, by omega, by go_num, rfl, Lib.hid (by rw [HMS.out]; exact ⟨fun h => by simp at h, fun h => by rcases h with h | h; exact HM.out.2 h; omega⟩), Lib.hid (pw_below_drewN HBj.out _)⟩
            case measure => simp [intOf]; omega
          have e2 : decide (x.f1 < y.f2) = true := decide_eq_true c2
          by_cases c3 : y.f1 < y.f2
          case neg =>
            have e3 : decide (y.f1 < y.f2) = false := decide_eq_false c3
            go_wp2
            go_quiet (fail)
            clear o0 q1 q2 x1 x2
            go_wp2
            go_roundw
            case rel => exact ⟨j + 1, false, by omega, by go_num, rfl, Lib.hid (by rw [HMS.out]; exact ⟨fun h => by simp at h, fun h => by rcases h with h | h; exact HM.out.2 h; omega⟩), Lib.hid (pw_below_drewN HBj.out _)⟩
            case measure => simp [intOf]; omega
          have e3 : decide (y.f1 < y.f2) = true := decide_eq_true c3
          by_cases c4 : x.f1 < x.f2
          case neg =>
            have e4 : decide (x.f1 < x.f2) = false := decide_eq_false c4
            go_wp2
            go_quiet (fail)
            clear o0 q1 q2 x1 x2
            go_wp2
            go_roundw
            case rel => exact ⟨j + 1, false, by omega, by go_num, rfl, Lib.hid (by rw [HMS.out]; exact ⟨fun h => by simp at h, fun h => by rcases h with h | h; exact HM.out.2 h; omega⟩), Lib.hid (pw_below_drewN HBj.out _)⟩
            case measure => simp [intOf]; omega
          have e4 : decide (x.f1 < x.f2) = true := decide_eq_true c4
          go_wp2
          go_quiet (fail)
          clear o0 q1 q2 x1 x2
          go_wp2
          go_roundw
          case rel => exact ⟨j + 1, true, by omega, by go_num, rfl, Lib.hid (by rw [HMS.out]; exact ⟨fun _ => .inr ⟨c0, c1, c2, c3, c4⟩, fun _ => by simp⟩), Lib.hid (pw_below_drewN HBj.out _)⟩
          case measure => simp [intOf]; omega
        · have hjk : k = j := by omega
          subst hjk
          obtain ⟨ad', x', e1, x0, x1, x2, HX'⟩ := at_S (Kd.C_below HL.out (below_step HB.out HBj.out)) k hlt
          cases e1
          obtain rfl : x = x' := by have := HX.out.symm.trans HX'.out; injection this
          obtain ⟨ao, o, e2, o0, HO⟩ := at_I (Kd.C_below (by have := HC1.out; rwa [← HOL.out] at this) HBj.out) k (by rw [HOL.out]; omega)
          subst e2
          have HMY := Lib.hid (may_one HNN.out.symm HX.out)
          obtain ⟨v, hv, a1, a2, a3⟩ := apart_law (C := C) (length := length) (offset := offset) HX.out
          rw [← HOUT.out] at hv a1 a2
          obtain rfl : v = o := by have := hv.symm.trans HO.out; injection this
          have HA := Lib.hid (⟨a1, a2, a3⟩ : _ ∧ _ ∧ _)
          clear hv a1 a2 a3
          have HCj := Lib.hid (blk_keep HBj.out HC.out)
          have HKj := Lib.hid (blk_keep HBj.out HK.out)
          obtain ⟨g0, g1, g2, g3, g4, g5, g6, g7, g8, g9, g10, g11⟩ := cfg_cells HCj.out
          have k0 := blk_cell HKj.out 0
          have k1 := blk_cell HKj.out 1
          obtain ⟨s, hs⟩ : ∃ s, s = liesW length offset x := ⟨_, rfl⟩
          have HSS := Lib.hid hs
          clear hs
          go_wp2
          apply region_z (N := 15) (ds := []) #[false, false, false, false, false, false, false, false, false, false, false, false, false, false, false]
          · kernel_rfl
          · rfl
          · rfl
          · intro Wd hS
            refine take_ (i := 0) (N := some 123) (v := ?_) (a' := ?_) #[true, false, false, false, false, false, false, false, false, false, false, false, false, false, false] rfl rfl (by kernel_rfl) (fun _ _ _ h => by cases h.1) (Or.inl ⟨by rfl, ?_⟩) hS ?_ ?_
            rotate_left
            · intro w' hb
              have s0 := hb.cell g0
              have s1 := hb.cell g1
              have s2 := hb.cell g2
              have s3 := hb.cell g3
              have s4 := hb.cell g4
              have s5 := hb.cell g5
              have s6 := hb.cell g6
              have s7 := hb.cell g7
              have s8 := hb.cell g8
              have s9 := hb.cell g9
              have s10 := hb.cell g10
              have s11 := hb.cell g11
              go_simp
              with_reducible rfl
            rotate_left
            · simp only [Act.put, List.setIfInBounds_toArray, List.set_cons_zero, List.set_cons_succ]
              rfl
            refine pure_ (i := 1) (N := some 124) (v := ?_) (a' := ?_) #[true, true, false, false, false, false, false, false, false, false, false, false, false, false, false] rfl rfl (by kernel_rfl) (fun _ _ _ h => by cases h.1) (Or.inl ⟨by rfl, ?_⟩) ?_ ?_
            rotate_left
            · intro w'
              go_simp
              with_reducible rfl
            rotate_left
            · simp only [Act.put, List.setIfInBounds_toArray, List.set_cons_zero, List.set_cons_succ]
              rfl
            refine take_ (i := 2) (N := some 125) (v := ?_) (a' := ?_) #[true, true, true, false, false, false, false, false, false, false, false, false, false, false, false] rfl rfl (by kernel_rfl) (fun _ _ _ h => by cases h.1) (Or.inl ⟨by rfl, ?_⟩) hS ?_ ?_
            rotate_left
            · intro w' hb
              have s0 := hb.cell k0
              go_simp
              with_reducible rfl
            rotate_left
            · simp only [Act.put, List.setIfInBounds_toArray, List.set_cons_zero, List.set_cons_succ]
              rfl
            refine pure_ (i := 3) (N := some 126) (v := ?_) (a' := ?_) #[true, true, true, true, false, false, false, false, false, false, false, false, false, false, false] rfl rfl (by kernel_rfl) (fun _ _ _ h => by cases h.1) (Or.inl ⟨by rfl, ?_⟩) ?_ ?_
            rotate_left
            · intro w'
              go_simp
              with_reducible rfl
            rotate_left
            · simp only [Act.put, List.setIfInBounds_toArray, List.set_cons_zero, List.set_cons_succ]
              rfl
            refine take_ (i := 4) (N := some 127) (v := ?_) (a' := ?_) #[true, true, true, true, true, false, false, false, false, false, false, false, false, false, false] rfl rfl (by kernel_rfl) (fun _ _ _ h => by cases h.1) (Or.inl ⟨by rfl, ?_⟩) hS ?_ ?_
            rotate_left
            · intro w' hb
              have s0 := hb.cell k1
              go_simp
              with_reducible rfl
            rotate_left
            · simp only [Act.put, List.setIfInBounds_toArray, List.set_cons_zero, List.set_cons_succ]
              rfl
            refine pure_ (i := 5) (N := some 128) (v := ?_) (a' := ?_) #[true, true, true, true, true, true, false, false, false, false, false, false, false, false, false] rfl rfl (by kernel_rfl) (fun _ _ _ h => by cases h.1) (Or.inl ⟨by rfl, ?_⟩) ?_ ?_
            rotate_left
            · intro w'
              go_simp
              with_reducible rfl
            rotate_left
            · simp only [Act.put, List.setIfInBounds_toArray, List.set_cons_zero, List.set_cons_succ]
              rfl
            refine pure_ (i := 6) (N := some 129) (v := ?_) (a' := ?_) #[true, true, true, true, true, true, true, false, false, false, false, false, false, false, false] rfl rfl (by kernel_rfl) (fun _ _ _ h => by cases h.1) (Or.inl ⟨by rfl, ?_⟩) ?_ ?_
            rotate_left
            · intro w'
              go_simp
              with_reducible rfl
            rotate_left
            · simp only [Act.put, List.setIfInBounds_toArray, List.set_cons_zero, List.set_cons_succ]
              rfl
            refine pure_ (i := 7) (N := some 130) (v := ?_) (a' := ?_) #[true, true, true, true, true, true, true, true, false, false, false, false, false, false, false] rfl rfl (by kernel_rfl) (fun _ _ _ h => by cases h.1) (Or.inl ⟨by rfl, ?_⟩) ?_ ?_
            rotate_left
            · intro w'
              go_simp
              with_reducible rfl
            rotate_left
            · simp only [Act.put, List.setIfInBounds_toArray, List.set_cons_zero, List.set_cons_succ]
              rfl
            refine take_ (i := 8) (N := some 131) (v := ?_) (a' := ?_) #[true, true, true, true, true, true, true, true, true, false, false, false, false, false, false] rfl rfl (by kernel_rfl) (fun _ _ _ h => by cases h.1) (Or.inl ⟨by rfl, ?_⟩) hS ?_ ?_
            rotate_left
            · intro w' hb
              have s0 := hb.cell x0
              have s1 := hb.cell x1
              have s2 := hb.cell x2
              go_simp
              with_reducible rfl
            rotate_left
            · simp only [Act.put, List.setIfInBounds_toArray, List.set_cons_zero, List.set_cons_succ]
              rfl
            refine one_ (i := 9) (N := some 132) #[true, true, true, true, true, true, true, true, true, true, false, false, false, false, false] rfl rfl (by kernel_rfl) (by simp) (fun K hK => ?_)
            go_simp
            refine (slot_calls _ _ _ _ _ _ _ _ _ _ C _ ((HR.out.below (below_step HB.out HBj.out)).below hS) length offset x).mono ?_
            rintro e u9 ⟨rfl, hb⟩
            rw [HMY.out, if_pos rfl, ← HSS.out]
            have hS9 : Bz wr u9 := Below.trans hS (hb.mono hS.size)
            refine hK.out _ _ hS9 (fun _ => ?_)
            clear hK K hb
            refine pure_ (i := 10) (N := some 122) (v := ?_) (a' := ?_) #[true, true, true, true, true, true, true, true, true, true, true, false, false, false, false] rfl rfl (by kernel_rfl) (fun _ _ _ h => by cases h.1) (Or.inl ⟨by rfl, ?_⟩) ?_ ?_
            rotate_left
            · intro w'
              go_simp
              with_reducible rfl
            rotate_left
            · simp only [Act.put, List.setIfInBounds_toArray, List.set_cons_zero, List.set_cons_succ]
              rfl
            refine pure_ (i := 11) (N := some 133) (v := ?_) (a' := ?_) #[true, true, true, true, true, true, true, true, true, true, true, true, false, false, false] rfl rfl (by kernel_rfl) (fun _ _ _ h => by cases h.1) (Or.inl ⟨by rfl, ?_⟩) ?_ ?_
            rotate_left
            · intro w'
              go_simp
              with_reducible rfl
            rotate_left
            · simp only [Act.put, List.setIfInBounds_toArray, List.set_cons_zero, List.set_cons_succ]
              rfl
            refine pure_ (i := 12) (N := some 134) (v := ?_) (a' := ?_) #[true, true, true, true, true, true, true, true, true, true, true, true, true, false, false] rfl rfl (by kernel_rfl) (fun _ _ _ h => by cases h.1) (Or.inl ⟨by rfl, ?_⟩) ?_ ?_
            rotate_left
            · intro w'
              go_simp
              with_reducible rfl
            rotate_left
            · simp only [Act.put, List.setIfInBounds_toArray, List.set_cons_zero, List.set_cons_succ]
              rfl
            refine pure_ (i := 13) (N := some 13) (v := ?_) (a' := ?_) #[true, true, true, true, true, true, true, true, true, true, true, true, true, true, false] rfl rfl (by kernel_rfl) (fun _ _ _ h => by cases h.1) (Or.inl ⟨by rfl, ?_⟩) ?_ ?_
            rotate_left
            · intro w'
              go_simp
              with_reducible rfl
            rotate_left
            · simp only [Act.put, List.setIfInBounds_toArray, List.set_cons_zero, List.set_cons_succ]
              rfl
            refine pure_ (i := 14) (N := some 14) (v := ?_) (a' := ?_) #[true, true, true, true, true, true, true, true, true, true, true, true, true, true, true] rfl rfl (by kernel_rfl) (fun _ _ _ h => by cases h.1) (Or.inl ⟨by rfl, ?_⟩) ?_ ?_
            rotate_left
            · intro w'
              go_simp
              with_reducible rfl
            rotate_left
            · simp only [Act.put, List.setIfInBounds_toArray, List.set_cons_zero, List.set_cons_succ]
              rfl
            refine done_ (by kernel_rfl) ?_
            exact ⟨rfl, rfl, hS9⟩
          intro W9 hb
          have HB9 := Lib.hid (below_step HBj.out hb)
          have HC9 := Lib.hid (blk_keep hb HCj.out)
          clear hb g0 g1 g2 g3 g4 g5 g6 g7 g8 g9 g10 g11 k0 k1 x0 x1 x2 o0
          obtain ⟨g0, g1, g2, g3, g4, g5, g6, g7, g8, g9, g10, g11⟩ := cfg_cells HC9.out
          obtain ⟨ad', x', e1, x0, x1, x2, HX'⟩ := at_S (Kd.C_below HL.out (below_step HB.out HB9.out)) k hlt
          cases e1
          obtain rfl : x = x' := by have := HX.out.symm.trans HX'.out; injection this
          clear x1 x2
          by_cases q1 : 0 ≤ s
          case neg => as_aux_lemma =>
            have es : decide (0 ≤ s) = false := decide_eq_false q1
            have HV := Lib.hid (show ¬ (v = 0 ∨ v = 4) from fun h => q1 (by have := (HA.out.2.2.1 h).1; rwa [← HSS.out] at this))
            clear q1
            go_wp2
            apply region_z (N := 14) (ds := []) #[false, false, false, false, false, false, false, false, false, false, false, false, false, false]
            · kernel_rfl
            · rfl
            · rfl
            · intro Wd hS
              refine pure_ (i := 0) (N := some 135) (v := ?_) (a' := ?_) #[true, false, false, false, false, false, false, false, false, false, false, false, false, false] rfl rfl (by kernel_rfl) (fun _ _ _ h => by cases h.1) (Or.inl ⟨by rfl, ?_⟩) ?_ ?_
              rotate_left
              · intro w'
                go_simp
                with_reducible rfl
              rotate_left
              · simp only [Act.put, List.setIfInBounds_toArray, List.set_cons_zero, List.set_cons_succ]
                rfl
              refine pure_ (i := 1) (N := some 136) (v := ?_) (a' := ?_) #[true, true, false, false, false, false, false, false, false, false, false, false, false, false] rfl rfl (by kernel_rfl) (fun _ _ _ h => by cases h.1) (Or.inl ⟨by rfl, ?_⟩) ?_ ?_
              rotate_left
              · intro w'
                go_simp
                with_reducible rfl
              rotate_left
              · simp only [Act.put, List.setIfInBounds_toArray, List.set_cons_zero, List.set_cons_succ]
                rfl
              refine pure_ (i := 2) (N := some 137) (v := ?_) (a' := ?_) #[true, true, true, false, false, false, false, false, false, false, false, false, false, false] rfl rfl (by kernel_rfl) (fun _ _ _ h => by cases h.1) (Or.inl ⟨by rfl, ?_⟩) ?_ ?_
              rotate_left
              · intro w'
                go_simp
                with_reducible rfl
              rotate_left
              · simp only [Act.put, List.setIfInBounds_toArray, List.set_cons_zero, List.set_cons_succ]
                rfl
              refine pure_ (i := 3) (N := some 138) (v := undef) (a' := ?_) #[true, true, true, true, false, false, false, false, false, false, false, false, false, false] rfl rfl (by kernel_rfl) (fun _ _ _ h => by cases h.1) (Or.inr ⟨by rfl, rfl⟩) ?_ ?_
              rotate_left
              · simp only [Act.put, List.setIfInBounds_toArray, List.set_cons_zero, List.set_cons_succ]
                rfl
              refine pure_ (i := 4) (N := some 139) (v := undef) (a' := ?_) #[true, true, true, true, true, false, false, false, false, false, false, false, false, false] rfl rfl (by kernel_rfl) (fun _ _ _ h => by cases h.1) (Or.inr ⟨by rfl, rfl⟩) ?_ ?_
              rotate_left
              · simp only [Act.put, List.setIfInBounds_toArray, List.set_cons_zero, List.set_cons_succ]
                rfl
              refine pure_ (i := 5) (N := some 140) (v := undef) (a' := ?_) #[true, true, true, true, true, true, false, false, false, false, false, false, false, false] rfl rfl (by kernel_rfl) (fun _ _ _ h => by cases h.1) (Or.inr ⟨by rfl, rfl⟩) ?_ ?_
              rotate_left
              · simp only [Act.put, List.setIfInBounds_toArray, List.set_cons_zero, List.set_cons_succ]
                rfl
              refine pure_ (i := 6) (N := some 141) (v := undef) (a' := ?_) #[true, true, true, true, true, true, true, false, false, false, false, false, false, false] rfl rfl (by kernel_rfl) (fun _ _ _ h => by cases h.1) (Or.inr ⟨by rfl, rfl⟩) ?_ ?_
              rotate_left
              · simp only [Act.put, List.setIfInBounds_toArray, List.set_cons_zero, List.set_cons_succ]
                rfl
              refine pure_ (i := 7) (N := some 142) (v := undef) (a' := ?_) #[true, true, true, true, true, true, true, true, false, false, false, false, false, false] rfl rfl (by kernel_rfl) (fun _ _ _ h => by cases h.1) (Or.inr ⟨by rfl, rfl⟩) ?_ ?_
              rotate_left
              · simp only [Act.put, List.setIfInBounds_toArray, List.set_cons_zero, List.set_cons_succ]
                rfl
              refine pure_ (i := 8) (N := some 143) (v := undef) (a' := ?_) #[true, true, true, true, true, true, true, true, true, false, false, false, false, false] rfl rfl (by kernel_rfl) (fun _ _ _ h => by cases h.1) (Or.inr ⟨by rfl, rfl⟩) ?_ ?_
              rotate_left
              · simp only [Act.put, List.setIfInBounds_toArray, List.set_cons_zero, List.set_cons_succ]
                rfl
              refine pure_ (i := 9) (N := some 144) (v := undef) (a' := ?_) #[true, true, true, true, true, true, true, true, true, true, false, false, false, false] rfl rfl (by kernel_rfl) (fun _ _ _ h => by cases h.1) (Or.inr ⟨by rfl, rfl⟩) ?_ ?_
              rotate_left
              · simp only [Act.put, List.setIfInBounds_toArray, List.set_cons_zero, List.set_cons_succ]
                rfl
              refine pure_ (i := 10) (N := some 145) (v := undef) (a' := ?_) #[true, true, true, true, true, true, true, true, true, true, true, false, false, false] rfl rfl (by kernel_rfl) (fun _ _ _ h => by cases h.1) (Or.inr ⟨by rfl, rfl⟩) ?_ ?_
              rotate_left
              · simp only [Act.put, List.setIfInBounds_toArray, List.set_cons_zero, List.set_cons_succ]
                rfl
              refine pure_ (i := 11) (N := some 146) (v := undef) (a' := ?_) #[true, true, true, true, true, true, true, true, true, true, true, true, false, false] rfl rfl (by kernel_rfl) (fun _ _ _ h => by cases h.1) (Or.inr ⟨by rfl, rfl⟩) ?_ ?_
              rotate_left
              · simp only [Act.put, List.setIfInBounds_toArray, List.set_cons_zero, List.set_cons_succ]
                rfl
              refine pure_ (i := 12) (N := some 147) (v := ?_) (a' := ?_) #[true, true, true, true, true, true, true, true, true, true, true, true, true, false] rfl rfl (by kernel_rfl) (fun _ _ _ h => by cases h.1) (Or.inl ⟨by rfl, ?_⟩) ?_ ?_
              rotate_left
              · intro w'
                go_simp
                with_reducible rfl
              rotate_left
              · simp only [Act.put, List.setIfInBounds_toArray, List.set_cons_zero, List.set_cons_succ]
                rfl
              refine pure_ (i := 13) (N := some 15) (v := ?_) (a' := ?_) #[true, true, true, true, true, true, true, true, true, true, true, true, true, true] rfl rfl (by kernel_rfl) (fun _ _ _ h => by cases h.1) (Or.inl ⟨by rfl, ?_⟩) ?_ ?_
              rotate_left
              · intro w'
                go_simp
                with_reducible rfl
              rotate_left
              · simp only [Act.put, List.setIfInBounds_toArray, List.set_cons_zero, List.set_cons_succ]
                rfl
              refine done_ (by kernel_rfl) ?_
              exact ⟨rfl, rfl, hS⟩
            intro W10 hb
            have HB10 := Lib.hid (below_step HB9.out hb)
            clear hb g0 g1 g2 g3 g4 g5 g6 g7 g8 g9 g10 g11 x0 es
            obtain ⟨ao', o', e2, o0, HO'⟩ := at_I (Kd.C_below (by have := HC1.out; rwa [← HOL.out] at this) HB10.out) k (by rw [HOL.out]; omega)
            cases e2
            obtain rfl : v = o' := by have := HO.out.symm.trans HO'.out; injection this
            have ev0 : (v == 0) = false := by simpa using fun h => HV.out (.inl h)
            have ev4 : (v == 4) = false := by simpa using fun h => HV.out (.inr h)
            go_wp2
            go_roundw
            case rel => exact ⟨k + 1, by omega, by go_num, HB10⟩
            case measure => simp [intOf]; omega
          have es : decide (0 ≤ s) = true := decide_eq_true q1
          obtain ⟨ow, how⟩ : ∃ ow, ow = ownerW C s := ⟨_, rfl⟩
          have HOW := Lib.hid how
          clear how
          by_cases q2 : ow = x.f0
          case neg => as_aux_lemma =>
            have eo : (ow == x.f0) = false := by simpa using q2
            have HV := Lib.hid (show ¬ (v = 0 ∨ v = 4) from fun h => q2 (by have := (HA.out.2.2.1 h).2; rwa [← HSS.out, ← HOW.out] at this))
            clear q1 q2
            go_wp2
            apply region_z (N := 14) (ds := []) #[false, false, false, false, false, false, false, false, false, false, false, false, false, false]
            · kernel_rfl
            · rfl
            · rfl
            · intro Wd hS
              refine pure_ (i := 0) (N := some 135) (v := ?_) (a' := ?_) #[true, false, false, false, false, false, false, false, false, false, false, false, false, false] rfl rfl (by kernel_rfl) (fun _ _ _ h => by cases h.1) (Or.inl ⟨by rfl, ?_⟩) ?_ ?_
              rotate_left
              · intro w'
                go_simp
                with_reducible rfl
              rotate_left
              · simp only [Act.put, List.setIfInBounds_toArray, List.set_cons_zero, List.set_cons_succ]
                rfl
              refine pure_ (i := 1) (N := some 136) (v := ?_) (a' := ?_) #[true, true, false, false, false, false, false, false, false, false, false, false, false, false] rfl rfl (by kernel_rfl) (fun _ _ _ h => by cases h.1) (Or.inl ⟨by rfl, ?_⟩) ?_ ?_
              rotate_left
              · intro w'
                go_simp
                with_reducible rfl
              rotate_left
              · simp only [Act.put, List.setIfInBounds_toArray, List.set_cons_zero, List.set_cons_succ]
                rfl
              refine pure_ (i := 2) (N := some 137) (v := ?_) (a' := ?_) #[true, true, true, false, false, false, false, false, false, false, false, false, false, false] rfl rfl (by kernel_rfl) (fun _ _ _ h => by cases h.1) (Or.inl ⟨by rfl, ?_⟩) ?_ ?_
              rotate_left
              · intro w'
                go_simp
                with_reducible rfl
              rotate_left
              · simp only [Act.put, List.setIfInBounds_toArray, List.set_cons_zero, List.set_cons_succ]
                rfl
              refine take_ (i := 3) (N := some 138) (v := ?_) (a' := ?_) #[true, true, true, true, false, false, false, false, false, false, false, false, false, false] rfl rfl (by kernel_rfl) (fun _ _ _ h => by cases h.1) (Or.inl ⟨by rfl, ?_⟩) hS ?_ ?_
              rotate_left
              · intro w' hb
                have s0 := hb.cell g0
                have s1 := hb.cell g1
                have s2 := hb.cell g2
                have s3 := hb.cell g3
                have s4 := hb.cell g4
                have s5 := hb.cell g5
                have s6 := hb.cell g6
                have s7 := hb.cell g7
                have s8 := hb.cell g8
                have s9 := hb.cell g9
                have s10 := hb.cell g10
                have s11 := hb.cell g11
                go_simp
                with_reducible rfl
              rotate_left
              · simp only [Act.put, List.setIfInBounds_toArray, List.set_cons_zero, List.set_cons_succ]
                rfl
              refine pure_ (i := 4) (N := some 139) (v := ?_) (a' := ?_) #[true, true, true, true, true, false, false, false, false, false, false, false, false, false] rfl rfl (by kernel_rfl) (fun _ _ _ h => by cases h.1) (Or.inl ⟨by rfl, ?_⟩) ?_ ?_
              rotate_left
              · intro w'
                go_simp
                with_reducible rfl
              rotate_left
              · simp only [Act.put, List.setIfInBounds_toArray, List.set_cons_zero, List.set_cons_succ]
                rfl
              refine pure_ (i := 6) (N := some 141) (v := ?_) (a' := ?_) #[true, true, true, true, true, false, true, false, false, false, false, false, false, false] rfl rfl (by kernel_rfl) (fun _ _ _ h => by cases h.1) (Or.inl ⟨by rfl, ?_⟩) ?_ ?_
              rotate_left
              · intro w'
                go_simp
                with_reducible rfl
              rotate_left
              · simp only [Act.put, List.setIfInBounds_toArray, List.set_cons_zero, List.set_cons_succ]
                rfl
              refine pure_ (i := 7) (N := some 142) (v := ?_) (a' := ?_) #[true, true, true, true, true, false, true, true, false, false, false, false, false, false] rfl rfl (by kernel_rfl) (fun _ _ _ h => by cases h.1) (Or.inl ⟨by rfl, ?_⟩) ?_ ?_
              rotate_left
              · intro w'
                go_simp
                with_reducible rfl
              rotate_left
              · simp only [Act.put, List.setIfInBounds_toArray, List.set_cons_zero, List.set_cons_succ]
                rfl
              refine pure_ (i := 8) (N := some 143) (v := ?_) (a' := ?_) #[true, true, true, true, true, false, true, true, true, false, false, false, false, false] rfl rfl (by kernel_rfl) (fun _ _ _ h => by cases h.1) (Or.inl ⟨by rfl, ?_⟩) ?_ ?_
              rotate_left
              · intro w'
                go_simp
                with_reducible rfl
              rotate_left
              · simp only [Act.put, List.setIfInBounds_toArray, List.set_cons_zero, List.set_cons_succ]
                rfl
              refine pure_ (i := 9) (N := some 144) (v := ?_) (a' := ?_) #[true, true, true, true, true, false, true, true, true, true, false, false, false, false] rfl rfl (by kernel_rfl) (fun _ _ _ h => by cases h.1) (Or.inl ⟨by rfl, ?_⟩) ?_ ?_
              rotate_left
              · intro w'
                go_simp
                with_reducible rfl
              rotate_left
              · simp only [Act.put, List.setIfInBounds_toArray, List.set_cons_zero, List.set_cons_succ]
                rfl
              refine take_ (i := 10) (N := some 145) (v := ?_) (a' := ?_) #[true, true, true, true, true, false, true, true, true, true, true, false, false, false] rfl rfl (by kernel_rfl) (fun _ _ _ h => by cases h.1) (Or.inl ⟨by rfl, ?_⟩) hS ?_ ?_
              rotate_left
              · intro w' hb
                have s0 := hb.cell x0
                go_simp
                with_reducible rfl
              rotate_left
              · simp only [Act.put, List.setIfInBounds_toArray, List.set_cons_zero, List.set_cons_succ]
                rfl
              refine one_ (i := 5) (N := some 140) #[true, true, true, true, true, true, true, true, true, true, true, false, false, false] rfl rfl (by kernel_rfl) (by simp) (fun K hK => ?_)
              go_simp
              refine (owner_calls _ _ _ _ _ _ _ _ _ _ C s _ ((HR.out.below (below_step HB.out HB9.out)).below hS)).mono ?_
              rintro e u5 ⟨rfl, hb⟩
              rw [← HOW.out]
              have hS5 : Bz W9 u5 := Below.trans hS (hb.mono hS.size)
              refine hK.out _ _ hS5 (fun _ => ?_)
              clear hK K hb
              have hS := hS5
              refine pure_ (i := 11) (N := some 146) (v := ?_) (a' := ?_) #[true, true, true, true, true, true, true, true, true, true, true, true, false, false] rfl rfl (by kernel_rfl) (fun _ _ _ h => by cases h.1) (Or.inl ⟨by rfl, ?_⟩) ?_ ?_
              rotate_left
              · intro w'
                go_simp
                with_reducible rfl
              rotate_left
              · simp only [Act.put, List.setIfInBounds_toArray, List.set_cons_zero, List.set_cons_succ]
                rfl
              refine pure_ (i := 12) (N := some 147) (v := ?_) (a' := ?_) #[true, true, true, true, true, true, true, true, true, true, true, true, true, false] rfl rfl (by kernel_rfl) (fun _ _ _ h => by cases h.1) (Or.inl ⟨by rfl, ?_⟩) ?_ ?_
              rotate_left
              · intro w'
                go_simp
                with_reducible rfl
              rotate_left
              · simp only [Act.put, List.setIfInBounds_toArray, List.set_cons_zero, List.set_cons_succ]
                rfl
              refine pure_ (i := 13) (N := some 15) (v := ?_) (a' := ?_) #[true, true, true, true, true, true, true, true, true, true, true, true, true, true] rfl rfl (by kernel_rfl) (fun _ _ _ h => by cases h.1) (Or.inl ⟨by rfl, ?_⟩) ?_ ?_
              rotate_left
              · intro w'
                go_simp
                with_reducible rfl
              rotate_left
              · simp only [Act.put, List.setIfInBounds_toArray, List.set_cons_zero, List.set_cons_succ]
                rfl
              refine done_ (by kernel_rfl) ?_
              exact ⟨rfl, rfl, hS⟩
            intro W10 hb
            have HB10 := Lib.hid (below_step HB9.out hb)
            clear hb g0 g1 g2 g3 g4 g5 g6 g7 g8 g9 g10 g11 x0 es
            obtain ⟨ao', o', e2, o0, HO'⟩ := at_I (Kd.C_below (by have := HC1.out; rwa [← HOL.out] at this) HB10.out) k (by rw [HOL.out]; omega)
            cases e2
            obtain rfl : v = o' := by have := HO.out.symm.trans HO'.out; injection this
            have ev0 : (v == 0) = false := by simpa using fun h => HV.out (.inl h)
            have ev4 : (v == 4) = false := by simpa using fun h => HV.out (.inr h)
            go_wp2
            go_roundw
            case rel => exact ⟨k + 1, by omega, by go_num, HB10⟩
            case measure => simp [intOf]; omega
          have eo : (ow == x.f0) = true := by simpa using q2
          have HV := Lib.hid (HA.out.2.2.2 ⟨by rw [← HSS.out]; exact q1, by rw [← HSS.out, ← HOW.out]; exact q2⟩)
          clear q1 q2
          go_wp2
          apply region_z (N := 14) (ds := []) #[false, false, false, false, false, false, false, false, false, false, false, false, false, false]
          · kernel_rfl
          · rfl
          · rfl
          · intro Wd hS
            refine pure_ (i := 0) (N := some 135) (v := ?_) (a' := ?_) #[true, false, false, false, false, false, false, false, false, false, false, false, false, false] rfl rfl (by kernel_rfl) (fun _ _ _ h => by cases h.1) (Or.inl ⟨by rfl, ?_⟩) ?_ ?_
            rotate_left
            · intro w'
              go_simp
              with_reducible rfl
            rotate_left
            · simp only [Act.put, List.setIfInBounds_toArray, List.set_cons_zero, List.set_cons_succ]
              rfl
            refine pure_ (i := 1) (N := some 136) (v := ?_) (a' := ?_) #[true, true, false, false, false, false, false, false, false, false, false, false, false, false] rfl rfl (by kernel_rfl) (fun _ _ _ h => by cases h.1) (Or.inl ⟨by rfl, ?_⟩) ?_ ?_
            rotate_left
            · intro w'
              go_simp
              with_reducible rfl
            rotate_left
            · simp only [Act.put, List.setIfInBounds_toArray, List.set_cons_zero, List.set_cons_succ]
              rfl
            refine pure_ (i := 2) (N := some 137) (v := ?_) (a' := ?_) #[true, true, true, false, false, false, false, false, false, false, false, false, false, false] rfl rfl (by kernel_rfl) (fun _ _ _ h => by cases h.1) (Or.inl ⟨by rfl, ?_⟩) ?_ ?_
            rotate_left
            · intro w'
              go_simp
              with_reducible rfl
            rotate_left
            · simp only [Act.put, List.setIfInBounds_toArray, List.set_cons_zero, List.set_cons_succ]
              rfl
            refine take_ (i := 3) (N := some 138) (v := ?_) (a' := ?_) #[true, true, true, true, false, false, false, false, false, false, false, false, false, false] rfl rfl (by kernel_rfl) (fun _ _ _ h => by cases h.1) (Or.inl ⟨by rfl, ?_⟩) hS ?_ ?_
            rotate_left
            · intro w' hb
              have s0 := hb.cell g0
              have s1 := hb.cell g1
              have s2 := hb.cell g2
              have s3 := hb.cell g3
              have s4 := hb.cell g4
              have s5 := hb.cell g5
              have s6 := hb.cell g6
              have s7 := hb.cell g7
              have s8 := hb.cell g8
              have s9 := hb.cell g9
              have s10 := hb.cell g10
              have s11 := hb.cell g11
              go_simp
              with_reducible rfl
            rotate_left
            · simp only [Act.put, List.setIfInBounds_toArray, List.set_cons_zero, List.set_cons_succ]
              rfl
            refine pure_ (i := 4) (N := some 139) (v := ?_) (a' := ?_) #[true, true, true, true, true, false, false, false, false, false, false, false, false, false] rfl rfl (by kernel_rfl) (fun _ _ _ h => by cases h.1) (Or.inl ⟨by rfl, ?_⟩) ?_ ?_
            rotate_left
            · intro w'
              go_simp
              with_reducible rfl
            rotate_left
            · simp only [Act.put, List.setIfInBounds_toArray, List.set_cons_zero, List.set_cons_succ]
              rfl
            refine pure_ (i := 6) (N := some 141) (v := ?_) (a' := ?_) #[true, true, true, true, true, false, true, false, false, false, false, false, false, false] rfl rfl (by kernel_rfl) (fun _ _ _ h => by cases h.1) (Or.inl ⟨by rfl, ?_⟩) ?_ ?_
            rotate_left
            · intro w'
              go_simp
              with_reducible rfl
            rotate_left
            · simp only [Act.put, List.setIfInBounds_toArray, List.set_cons_zero, List.set_cons_succ]
              rfl
            refine pure_ (i := 7) (N := some 142) (v := ?_) (a' := ?_) #[true, true, true, true, true, false, true, true, false, false, false, false, false, false] rfl rfl (by kernel_rfl) (fun _ _ _ h => by cases h.1) (Or.inl ⟨by rfl, ?_⟩) ?_ ?_
            rotate_left
            · intro w'
              go_simp
              with_reducible rfl
            rotate_left
            · simp only [Act.put, List.setIfInBounds_toArray, List.set_cons_zero, List.set_cons_succ]
              rfl
            refine pure_ (i := 8) (N := some 143) (v := ?_) (a' := ?_) #[true, true, true, true, true, false, true, true, true, false, false, false, false, false] rfl rfl (by kernel_rfl) (fun _ _ _ h => by cases h.1) (Or.inl ⟨by rfl, ?_⟩) ?_ ?_
            rotate_left
            · intro w'
              go_simp
              with_reducible rfl
            rotate_left
            · simp only [Act.put, List.setIfInBounds_toArray, List.set_cons_zero, List.set_cons_succ]
              rfl
            refine pure_ (i := 9) (N := some 144) (v := ?_) (a' := ?_) #[true, true, true, true, true, false, true, true, true, true, false, false, false, false] rfl rfl (by kernel_rfl) (fun _ _ _ h => by cases h.1) (Or.inl ⟨by rfl, ?_⟩) ?_ ?_
            rotate_left
            · intro w'
              go_simp
              with_reducible rfl
            rotate_left
            · simp only [Act.put, List.setIfInBounds_toArray, List.set_cons_zero, List.set_cons_succ]
              rfl
            refine take_ (i := 10) (N := some 145) (v := ?_) (a' := ?_) #[true, true, true, true, true, false, true, true, true, true, true, false, false, false] rfl rfl (by kernel_rfl) (fun _ _ _ h => by cases h.1) (Or.inl ⟨by rfl, ?_⟩) hS ?_ ?_
            rotate_left
            · intro w' hb
              have s0 := hb.cell x0
              go_simp
              with_reducible rfl
            rotate_left
            · simp only [Act.put, List.setIfInBounds_toArray, List.set_cons_zero, List.set_cons_succ]
              rfl
            refine one_ (i := 5) (N := some 140) #[true, true, true, true, true, true, true, true, true, true, true, false, false, false] rfl rfl (by kernel_rfl) (by simp) (fun K hK => ?_)
            go_simp
            refine (owner_calls _ _ _ _ _ _ _ _ _ _ C s _ ((HR.out.below (below_step HB.out HB9.out)).below hS)).mono ?_
            rintro e u5 ⟨rfl, hb⟩
            rw [← HOW.out]
            have hS5 : Bz W9 u5 := Below.trans hS (hb.mono hS.size)
            refine hK.out _ _ hS5 (fun _ => ?_)
            clear hK K hb
            have hS := hS5
            refine pure_ (i := 11) (N := some 146) (v := ?_) (a' := ?_) #[true, true, true, true, true, true, true, true, true, true, true, true, false, false] rfl rfl (by kernel_rfl) (fun _ _ _ h => by cases h.1) (Or.inl ⟨by rfl, ?_⟩) ?_ ?_
            rotate_left
            · intro w'
              go_simp
              with_reducible rfl
            rotate_left
            · simp only [Act.put, List.setIfInBounds_toArray, List.set_cons_zero, List.set_cons_succ]
              rfl
            refine pure_ (i := 12) (N := some 147) (v := ?_) (a' := ?_) #[true, true, true, true, true, true, true, true, true, true, true, true, true, false] rfl rfl (by kernel_rfl) (fun _ _ _ h => by cases h.1) (Or.inl ⟨by rfl, ?_⟩) ?_ ?_
            rotate_left
            · intro w'
              go_simp
              with_reducible rfl
            rotate_left
            · simp only [Act.put, List.setIfInBounds_toArray, List.set_cons_zero, List.set_cons_succ]
              rfl
            refine pure_ (i := 13) (N := some 15) (v := ?_) (a' := ?_) #[true, true, true, true, true, true, true, true, true, true, true, true, true, true] rfl rfl (by kernel_rfl) (fun _ _ _ h => by cases h.1) (Or.inl ⟨by rfl, ?_⟩) ?_ ?_
            rotate_left
            · intro w'
              go_simp
              with_reducible rfl
            rotate_left
            · simp only [Act.put, List.setIfInBounds_toArray, List.set_cons_zero, List.set_cons_succ]
              rfl
            refine done_ (by kernel_rfl) ?_
            exact ⟨rfl, rfl, hS⟩
          intro W10 hb
          have HB10 := Lib.hid (below_step HB9.out hb)
          clear hb g0 g1 g2 g3 g4 g5 g6 g7 g8 g9 g10 g11 x0 es
          obtain ⟨ao', o', e2, o0, HO'⟩ := at_I (Kd.C_below (by have := HC1.out; rwa [← HOL.out] at this) HB10.out) k (by rw [HOL.out]; omega)
          cases e2
          obtain rfl : v = o' := by have := HO.out.symm.trans HO'.out; injection this
          rcases HV.out with h4 | h4
          · have hbf : b = false := by
              cases b with
              | false => rfl
              | true => exact absurd (HM.out.1 rfl) (HA.out.1 h4)
            have ev0 : (v == 0) = true := by simpa using h4
            have ev4 : (v == 4) = false := by simp [h4]
            subst hbf
            clear h4
            go_wp2
            go_roundw
            case rel => exact ⟨k + 1, by omega, by go_num, HB10⟩
            case measure => simp [intOf]; omega
          · have hbt : b = true := HM.out.2 (HA.out.2.1 h4)
            have ev0 : (v == 0) = false := by simp [h4]
            have ev4 : (v == 4) = true := by simpa using h4
            subst hbt
            clear h4
            go_wp2
            go_roundw
            case rel => exact ⟨k + 1, by omega, by go_num, HB10⟩
            case measure => simp [intOf]; omega
    · go_wp2
      go_ret
      exact ⟨rfl, below_step HB.out HB2.out⟩
end Go.Proofs.Ytloibbfihkfeeaa
