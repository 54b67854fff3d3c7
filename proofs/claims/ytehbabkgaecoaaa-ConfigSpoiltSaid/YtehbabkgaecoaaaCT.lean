/- The walk of ConfigTurns. -/
import Derived.Test.YtehbabkgaecoaaaEA
import Derived.Test.YtehbabkgaecoaaaCkP
namespace Go.Proofs.Ytehbabkgaecoaaa
set_option linter.unusedVariables false
set_option linter.unusedSimpArgs false
open Go.RowKit Go.Shelf Go.Proofs.YtehbabkgaecoaaaW.PrintWords Go.Proofs.YtehbabkgaecoaaaW.PrintLast

theorem check_nodes {C : S29} (h : checkN C = 0) : (4 ≤ C.f0 ∧ C.f0 ≤ 16) ∧ (C.f1.length : Int) = C.f0 ∧ ∀ n : Int, 0 ≤ n → n < C.f0 → n ∈ C.f1 := by
  have hn : nodesB C = true := by
    cases hb : nodesB C with
    | true => rfl
    | false => rw [checkN, if_pos hb] at h; omega
  unfold nodesB withinB at hn
  simp only [Bool.and_eq_true, decide_eq_true_eq, List.all_eq_true] at hn
  obtain ⟨⟨⟨h1, h2⟩, h3⟩, h4⟩ := hn
  refine ⟨⟨h1, h2⟩, h3, fun n h0 h5 => ?_⟩
  have := h4 n.toNat (List.mem_range.2 (by omega))
  rwa [show ((n.toNat : Nat) : Int) = n by omega] at this
theorem owners_nodup {C : S29} (h : checkN C = 0) : C.f1.Nodup := by
  obtain ⟨h1, h2, h3⟩ := check_nodes h
  have hp : C.f1.Perm (upto C.f1.length) := perm_of_len (upto_nodup _) (fun x hx => by
    obtain ⟨h0, h4⟩ := mem_upto.1 hx
    exact h3 x h0 (by omega)) (by rw [upto_len]; omega)
  exact hp.nodup_iff.2 (upto_nodup _)
theorem turn_facts {C : S29} (h : checkN C = 0) {n : Int} (h0 : 0 ≤ n) (h1 : n < C.f0) : 0 ≤ idxI C.f1 n ∧ idxI C.f1 n < C.f0 ∧ ∀ i : Nat, (i : Int) < C.f0 → (C.f1.getD i 0 = n ↔ (i : Int) = idxI C.f1 n) := by
  obtain ⟨_, h2, h3⟩ := check_nodes h
  have hm := h3 n h0 h1
  have hx : idxI C.f1 n = (C.f1.idxOf n : Int) := if_pos hm
  have hlt := List.idxOf_lt_length_of_mem hm
  rw [hx]
  refine ⟨by omega, by omega, fun i hi => ?_⟩
  have hg : C.f1.getD i 0 = C.f1[i]'(by omega) := by simp [List.getD_eq_getElem?_getD, List.getElem?_eq_getElem (show i < C.f1.length by omega)]
  rw [hg]
  constructor
  · intro he
    have h4 : C.f1[i]'(by omega) = C.f1[C.f1.idxOf n] := by rw [he, List.getElem_idxOf]
    have hp := List.pairwise_iff_getElem.1 (List.nodup_iff_pairwise_ne.1 (owners_nodup h))
    rcases Nat.lt_trichotomy i (C.f1.idxOf n) with hl | hl | hl
    · exact absurd h4 (hp _ _ (by omega) hlt hl)
    · omega
    · exact absurd h4.symm (hp _ _ hlt (by omega) hl)
  · intro he
    have : i = C.f1.idxOf n := by omega
    subst this
    exact List.getElem_idxOf _
theorem owner_at {C : S29} (h : checkN C = 0) (r : Int) (h0 : 0 ≤ r) (i : Nat) (hi : (i : Int) < C.f0) : ownerW C (r * C.f0 + i) = C.f1.getD i 0 := by
  obtain ⟨⟨h1, _⟩, h2, _⟩ := check_nodes h
  have h3 : 0 ≤ r * C.f0 := Int.mul_nonneg h0 (by omega)
  rw [ownerW, if_neg (by omega), Int.add_comm, Int.add_mul_emod_self_right, Int.emod_eq_of_lt (by omega) hi, Int.toNat_natCast]
theorem u8_bd {n : Int} (h : (Lit.int .u8 n).wf = true) : 0 ≤ n ∧ n ≤ 255 := by
  simp [Lit.wf, IntKind.min, IntKind.max, IntKind.signed, IntKind.bits] at h; omega
theorem u16_bd {n : Int} (h : (Lit.int .u16 n).wf = true) : 0 ≤ n ∧ n ≤ 65535 := by
  simp [Lit.wf, IntKind.min, IntKind.max, IntKind.signed, IntKind.bits] at h; omega
set_option maxRecDepth 100000 in
set_option maxHeartbeats 16000000 in
theorem turns_calls (w : World) (A1 A8 A9 A10 A11 : Option Addr) (c1 c8 c9 c10 c11 : Nat) (C : S29) (h : CfgIn w C A1 A8 A9 A10 A11 c1 c8 c9 c10 c11) (_hC : CfgOk C) (_hz : SzOk C) (node : Int) (hn : (Lit.int .u8 node).wf = true) (round : Int) (hr : (Lit.int .u16 round).wf = true) :
    Calls Try.prog 7 #[.agg #[.int .i64 C.f0, .slice A1 C.f1.length c1, .int .i64 C.f2, .int .i64 C.f3, .int .i64 C.f4, .int .i64 C.f5, .int .i64 C.f6, .int .i64 C.f7, .slice A8 C.f8.length c8, .slice A9 C.f9.length c9, .slice A10 C.f10.length c10, .slice A11 C.f11.length c11], .int .u8 node, .int .u16 round] w fun e w' => e = .returned (.bool true) ∧ Below w.heap.size w w' := by
  obtain ⟨n0, n1⟩ := u8_bd hn
  obtain ⟨r0, r1⟩ := u16_bd hr
  have HR := Lib.hid h
  have HB := Lib.hid (show Below w.heap.size w (w.alloc (Obj.cells #[.int .i64 C.f0, .slice A1 C.f1.length c1, .int .i64 C.f2, .int .i64 C.f3, .int .i64 C.f4, .int .i64 C.f5, .int .i64 C.f6, .int .i64 C.f7, .slice A8 C.f8.length c8, .slice A9 C.f9.length c9, .slice A10 C.f10.length c10, .slice A11 C.f11.length c11] 29)) from (Below.refl _ _).alloc (Nat.le_refl _) _)
  have H0 := Lib.hid (blk_new w (o := (Obj.cells #[.int .i64 C.f0, .slice A1 C.f1.length c1, .int .i64 C.f2, .int .i64 C.f3, .int .i64 C.f4, .int .i64 C.f5, .int .i64 C.f6, .int .i64 C.f7, .slice A8 C.f8.length c8, .slice A9 C.f9.length c9, .slice A10 C.f10.length c10, .slice A11 C.f11.length c11] 29)))
  clear h hn hr
  go_enter Try.func7, Try.ntmps7
  obtain ⟨k0, k1, k2, k3, k4, k5, k6, k7, k8, k9, k10, k11⟩ := cfg_cells H0.out
  go_wp2_with fail
  refine (alive_calls _).mono ?_
  rintro e u ⟨rfl, hb⟩
  clear k0 k1 k2 k3 k4 k5 k6 k7 k8 k9 k10 k11
  replace H0 := Lib.hid (blk_keep hb H0.out)
  replace HB := Lib.hid (below_step HB.out hb)
  clear hb
  obtain ⟨k0, k1, k2, k3, k4, k5, k6, k7, k8, k9, k10, k11⟩ := cfg_cells H0.out
  obtain ⟨n, hn⟩ : ∃ n, n = checkN C := ⟨_, rfl⟩
  have EN := Lib.hid hn
  clear hn
  go_wp2_with fail
  refine (check_calls _ _ _ _ _ _ _ _ _ _ C _ (HR.out.below HB.out)).mono ?_
  rintro e u ⟨rfl, hb⟩
  clear k0 k1 k2 k3 k4 k5 k6 k7 k8 k9 k10 k11
  replace H0 := Lib.hid (blk_keep hb H0.out)
  replace HB := Lib.hid (below_step HB.out hb)
  clear hb
  obtain ⟨k0, k1, k2, k3, k4, k5, k6, k7, k8, k9, k10, k11⟩ := cfg_cells H0.out
  rw [← EN.out]
  by_cases hc : n = 0
  case neg =>
    have e0 : (n != 0) = true := by simpa using hc
    clear hc
    go_wp2
    go_ret
    exact ⟨rfl, HB.out⟩
  subst hc
  have EC := Lib.hid EN.out.symm
  clear EN
  obtain ⟨⟨b0, b1⟩, b2, -⟩ := check_nodes EC.out
  have B2 := Lib.hid b2
  clear b2
  obtain ⟨nn, hnn⟩ : ∃ m, m = node % C.f0 := ⟨_, rfl⟩
  have m0 : 0 ≤ nn := by rw [hnn]; exact Int.emod_nonneg _ (by omega)
  have m1 : nn < C.f0 := by rw [hnn]; exact Int.emod_lt_of_pos _ (by omega)
  have EM := Lib.hid hnn
  clear hnn
  obtain ⟨at_, hat⟩ : ∃ m, m = idxI C.f1 nn := ⟨_, rfl⟩
  obtain ⟨a0, a1, a2⟩ := turn_facts EC.out m0 m1
  rw [← hat] at a0 a1 a2
  have A2 := Lib.hid a2
  have EA := Lib.hid hat
  clear hat a2
  go_wp2_with fail
  rw [← EM.out]
  refine (turn_calls _ _ _ _ _ _ _ _ _ _ C nn _ (HR.out.below HB.out)).mono ?_
  rintro e u ⟨rfl, hb⟩
  clear k0 k1 k2 k3 k4 k5 k6 k7 k8 k9 k10 k11
  replace H0 := Lib.hid (blk_keep hb H0.out)
  replace HB := Lib.hid (below_step HB.out hb)
  clear hb
  obtain ⟨k0, k1, k2, k3, k4, k5, k6, k7, k8, k9, k10, k11⟩ := cfg_cells H0.out
  rw [← EA.out]
  go_wp2_with fail
  go_loopw [10] (fun i W => ∃ k : Nat, (k : Int) ≤ C.f0 ∧ i = .int .i64 k ∧ Hid (W.heap[w.heap.size]? = some (Obj.cells #[.int .i64 C.f0, .slice A1 C.f1.length c1, .int .i64 C.f2, .int .i64 C.f3, .int .i64 C.f4, .int .i64 C.f5, .int .i64 C.f6, .int .i64 C.f7, .slice A8 C.f8.length c8, .slice A9 C.f9.length c9, .slice A10 C.f10.length c10, .slice A11 C.f11.length c11] 29)) ∧ Hid (Below w.heap.size w W)) (fun i _ => (C.f0 - intOf i).toNat)
  case atStart => exact ⟨0, by omega, rfl, H0, HB⟩
  case round =>
    clear H0 HB k0 k1 k2 k3 k4 k5 k6 k7 k8 k9 k10 k11
    obtain ⟨k, hk, rfl, H0, HB⟩ := hrel
    obtain ⟨k0, k1, k2, k3, k4, k5, k6, k7, k8, k9, k10, k11⟩ := cfg_cells H0.out
    by_cases hlt : (k : Int) < C.f0
    · have mm0 : 0 ≤ round * C.f0 := Int.mul_nonneg r0 (by omega)
      have mm1 : round * C.f0 ≤ 65535 * 16 := Int.mul_le_mul r1 b1 (by omega) (by omega)
      have hw := owner_at EC.out round r0 k hlt
      have ha := A2.out k hlt
      obtain ⟨ow, how⟩ : ∃ m, m = C.f1.getD k 0 := ⟨_, rfl⟩
      rw [← how] at hw ha
      have HW := Lib.hid hw
      have HA := Lib.hid ha
      clear hw ha how
      by_cases hq : (k : Int) = at_
      · have e1 : ((k : Int) == at_) = true := by simpa using hq
        have e2 : (ow == nn) = true := by simpa using HA.out.2 hq
        clear hq
        go_wp2_with fail
        refine (owner_calls _ _ _ _ _ _ _ _ _ _ C (round * C.f0 + k) _ (HR.out.below HB.out)).mono ?_
        rintro e u ⟨rfl, hb⟩
        clear k0 k1 k2 k3 k4 k5 k6 k7 k8 k9 k10 k11
        replace H0 := Lib.hid (blk_keep hb H0.out)
        replace HB := Lib.hid (below_step HB.out hb)
        clear hb
        obtain ⟨k0, k1, k2, k3, k4, k5, k6, k7, k8, k9, k10, k11⟩ := cfg_cells H0.out
        rw [HW.out]
        go_wp2
        go_roundw
        case rel => exact ⟨k + 1, by omega, by go_num, H0, HB⟩
        case measure => simp [intOf]; omega
      · have e1 : ((k : Int) == at_) = false := by simpa using hq
        have e2 : (ow == nn) = false := by simpa using fun h => hq (HA.out.1 h)
        clear hq
        go_wp2_with fail
        refine (owner_calls _ _ _ _ _ _ _ _ _ _ C (round * C.f0 + k) _ (HR.out.below HB.out)).mono ?_
        rintro e u ⟨rfl, hb⟩
        clear k0 k1 k2 k3 k4 k5 k6 k7 k8 k9 k10 k11
        replace H0 := Lib.hid (blk_keep hb H0.out)
        replace HB := Lib.hid (below_step HB.out hb)
        clear hb
        obtain ⟨k0, k1, k2, k3, k4, k5, k6, k7, k8, k9, k10, k11⟩ := cfg_cells H0.out
        rw [HW.out]
        go_wp2
        go_roundw
        case rel => exact ⟨k + 1, by omega, by go_num, H0, HB⟩
        case measure => simp [intOf]; omega
    · have HO := Lib.hid (show ownerW C (-1 - at_) = -1 by rw [ownerW, if_pos (by omega)])
      go_wp2_with fail
      refine (owner_calls _ _ _ _ _ _ _ _ _ _ C (-1 - at_) _ (HR.out.below HB.out)).mono ?_
      rintro e u ⟨rfl, hb⟩
      clear k0 k1 k2 k3 k4 k5 k6 k7 k8 k9 k10 k11
      replace H0 := Lib.hid (blk_keep hb H0.out)
      replace HB := Lib.hid (below_step HB.out hb)
      clear hb
      obtain ⟨k0, k1, k2, k3, k4, k5, k6, k7, k8, k9, k10, k11⟩ := cfg_cells H0.out
      rw [HO.out]
      go_wp2
      go_ret
      exact ⟨rfl, HB.out⟩
end Go.Proofs.Ytehbabkgaecoaaa
