/- The walk of GuardOthers. -/
import Derived.Test.YtloibbfihkfeeaaGOp
import Derived.Test.YtloibbfihkfeeaaGJ
import Derived.Test.YtloibbfihkfeeaaGreat
namespace Go.Proofs.Ytloibbfihkfeeaa
set_option linter.unusedVariables false
set_option linter.unusedSimpArgs false
open Go.RowKit Go.Shelf Go.Proofs.YtloibbfihkfeeaaW.PrintWords Go.Proofs.YtloibbfihkfeeaaW.PrintLast
set_option linter.unusedVariables false
set_option linter.unusedSimpArgs false

theorem may_sub {C : S28} {length offset : Int} {l m : List Sh} (h : mayW C length offset l = 0) (hm : ∀ x ∈ m, x ∈ l) : mayW C length offset m = 0 := by
  obtain ⟨h0, h1, h2, h3, h4, h5, h6⟩ := may_bounds h
  unfold mayW
  rw [if_neg (by rw [h0]; simp), if_neg (by omega), if_neg (by omega), if_pos]
  exact List.all_eq_true.2 fun x hx => List.all_eq_true.1 h6 x (hm x hx)
theorem own_sub {node : Int} {l : List Sh} {out : List Int} : ∀ x ∈ ownOf node (l.zip out), x ∈ l := by
  intro x hx
  obtain ⟨p, hp, rfl⟩ := List.mem_map.1 hx
  exact (List.of_mem_zip (List.mem_filter.1 hp).1).1
theorem own_le {node : Int} {z : List (Sh × Int)} : (ownOf node z).length ≤ z.length := by
  unfold ownOf
  rw [List.length_map]
  exact List.length_filter_le _ _
theorem check_nodes {C : S28} (h : checkN C = 0) : 4 ≤ C.f0 ∧ C.f0 ≤ 16 := by
  have hc : nodesB C = true := by
    cases hcc : nodesB C with
    | true => rfl
    | false => unfold checkN at h; rw [if_pos hcc] at h; omega
  simp only [nodesB, Bool.and_eq_true, withinB, decide_eq_true_eq] at hc
  exact ⟨hc.1.1.1, hc.1.1.2⟩
set_option maxRecDepth 100000 in
set_option maxHeartbeats 16000000 in
theorem others_calls (A1 A8 A9 A10 A11 : Option Addr) (c1 c8 c9 c10 c11 : Nat) (C : S28) (w : World) (h : CfgIn w C A1 A8 A9 A10 A11 c1 c8 c9 c10 c11) (length offset : Int) (hk1 : I64 length) (hk2 : I64 offset) (A : Option Addr) (c : Nat) (l : List Sh) (hr : Kd.C k32 w A l.length l) (hc : l.length ≤ c) :
    Calls Try.prog 5 #[.agg #[.int .i64 C.f0, .slice A1 C.f1.length c1, .int .i64 C.f2, .int .i64 C.f3, .int .i64 C.f4, .int .i64 C.f5, .int .i64 C.f6, .int .i64 C.f7, .slice A8 C.f8.length c8, .slice A9 C.f9.length c9, .slice A10 C.f10.length c10, .slice A11 C.f11.length c11], .agg #[.int .i64 length, .int .i64 offset], .slice A l.length c] w fun e w' => e = .returned (.bool true) ∧ Below w.heap.size w w' := by
  have HR := Lib.hid h
  have HL := Lib.hid hr
  have HB := Lib.hid (show Below w.heap.size w ((w.alloc (Obj.cells #[.int .i64 C.f0, .slice A1 C.f1.length c1, .int .i64 C.f2, .int .i64 C.f3, .int .i64 C.f4, .int .i64 C.f5, .int .i64 C.f6, .int .i64 C.f7, .slice A8 C.f8.length c8, .slice A9 C.f9.length c9, .slice A10 C.f10.length c10, .slice A11 C.f11.length c11] 28)).alloc (Obj.cells #[.int .i64 length, .int .i64 offset] 30)) from ((Below.refl _ _).alloc (Nat.le_refl _) _).alloc (by simp) _)
  have HC := Lib.hid (blk_alloc (blk_new w (Obj.cells #[.int .i64 C.f0, .slice A1 C.f1.length c1, .int .i64 C.f2, .int .i64 C.f3, .int .i64 C.f4, .int .i64 C.f5, .int .i64 C.f6, .int .i64 C.f7, .slice A8 C.f8.length c8, .slice A9 C.f9.length c9, .slice A10 C.f10.length c10, .slice A11 C.f11.length c11] 28)) (Obj.cells #[.int .i64 length, .int .i64 offset] 30))
  have HK := Lib.hid (show ((w.alloc (Obj.cells #[.int .i64 C.f0, .slice A1 C.f1.length c1, .int .i64 C.f2, .int .i64 C.f3, .int .i64 C.f4, .int .i64 C.f5, .int .i64 C.f6, .int .i64 C.f7, .slice A8 C.f8.length c8, .slice A9 C.f9.length c9, .slice A10 C.f10.length c10, .slice A11 C.f11.length c11] 28)).alloc (Obj.cells #[.int .i64 length, .int .i64 offset] 30)).heap[w.heap.size + 1]? = some (Obj.cells #[.int .i64 length, .int .i64 offset] 30) from blk_new_at _ _ (by simp))
  have HK1 := Lib.hid hk1
  clear h hr hk1 hk2
  go_enter Try.func5, Try.ntmps5
  go_wp2_with fail
  refine (alive_calls _).mono ?_
  rintro e W1 ⟨rfl, hb⟩
  replace HC := Lib.hid (blk_keep hb HC.out)
  replace HK := Lib.hid (blk_keep hb HK.out)
  replace HB := Lib.hid (below_step HB.out hb)
  clear hb
  obtain ⟨g0, g1, g2, g3, g4, g5, g6, g7, g8, g9, g10, g11⟩ := cfg_cells HC.out
  obtain ⟨gr, hgr⟩ : ∃ gr, gr = greatB C := ⟨_, rfl⟩
  have HG := Lib.hid hgr
  clear hgr
  go_wp2_with fail
  refine (great_calls _ _ _ _ _ _ _ _ _ _ C _ (HR.out.below HB.out)).mono ?_
  rintro e W2 ⟨rfl, hb⟩
  rw [← HG.out]
  clear g0 g1 g2 g3 g4 g5 g6 g7 g8 g9 g10 g11
  replace HC := Lib.hid (blk_keep hb HC.out)
  replace HK := Lib.hid (blk_keep hb HK.out)
  replace HB := Lib.hid (below_step HB.out hb)
  clear hb
  cases gr
  case true =>
    go_wp2
    go_ret
    exact ⟨rfl, HB.out⟩
  by_cases h60 : l.length ≤ 60
  case neg =>
    have e60 : decide (60 < (l.length : Int)) = true := decide_eq_true (by omega)
    go_wp2
    go_ret
    exact ⟨rfl, HB.out⟩
  have e60 : decide (60 < (l.length : Int)) = false := decide_eq_false (by omega)
  have k0 := blk_cell HK.out 0
  have k1 := blk_cell HK.out 1
  obtain ⟨g0, g1, g2, g3, g4, g5, g6, g7, g8, g9, g10, g11⟩ := cfg_cells HC.out
  obtain ⟨n, hn⟩ : ∃ n, n = mayW C length offset l := ⟨_, rfl⟩
  have HNN := Lib.hid hn
  clear hn
  go_wp2_with fail
  refine (through_calls _ _ _ _ _ _ _ _ _ _ C _ (HR.out.below HB.out) length offset A c l (Kd.C_below HL.out HB.out) (by omega)).mono ?_
  rintro e V1 ⟨v1, rfl, hR1, hb⟩
  rw [← HNN.out] at hR1 ⊢
  clear g0 g1 g2 g3 g4 g5 g6 g7 g8 g9 g10 g11 k0 k1
  replace HC := Lib.hid (blk_keep hb HC.out)
  replace HK := Lib.hid (blk_keep hb HK.out)
  replace HB := Lib.hid (below_step HB.out hb)
  clear hb
  by_cases h0 : n = 0
  case neg =>
    have e0 : (n != 0) = true := by simpa using h0
    rw [if_neg h0] at hR1
    obtain ⟨A1', d1, rfl, -, -⟩ := Kd.R_reads hR1
    clear h0 hR1
    go_wp2
    go_ret
    exact ⟨rfl, HB.out⟩
  rw [if_pos h0] at hR1
  obtain ⟨A1', d1, rfl, -, hC1⟩ := Kd.R_reads hR1
  have HC1 := Lib.hid hC1
  rw [thr_len]
  clear hR1 hC1
  subst h0
  obtain ⟨out, hout⟩ : ∃ out, out = thr C length offset l l.length := ⟨_, rfl⟩
  have hol : out.length = l.length := by rw [hout, thr_len]
  rw [← hout] at HC1
  have HOUT := Lib.hid hout
  have HOL := Lib.hid hol
  clear hout hol
  rw [HOL.out] at HC1
  go_wp2
  obtain ⟨z, hz⟩ : ∃ z, z = l.zip out := ⟨_, rfl⟩
  have HZ := Lib.hid hz
  have hzl : z.length = l.length := by rw [hz, List.length_zip, HOL.out]; omega
  have HZL := Lib.hid hzl
  clear hz hzl
  obtain ⟨hck, hl1, -⟩ := may_bounds HNN.out.symm
  obtain ⟨n4, n16⟩ := check_nodes hck
  have HL1 := Lib.hid hl1
  clear hck hl1
  go_wp2
  go_loopw [10] (fun i wr => ∃ n : Nat, (n : Int) ≤ C.f0 ∧ i = .int .i64 n ∧ Hid (Below V1.heap.size V1 wr)) (fun i _ => (C.f0 - (intOf i)).toNat)
  case atStart => exact ⟨0, by omega, rfl, Lib.hid (Below.refl _ _)⟩
  case round =>
    obtain ⟨nd, hnd, rfl, HB2⟩ := hrel
    have g0 := blk_cell (blk_keep HB2.out HC.out) 0
    by_cases hlt : (nd : Int) < C.f0
    case neg =>
      have elt : decide ((nd : Int) < C.f0) = false := decide_eq_false hlt
      go_wp2
      go_ret
      exact ⟨rfl, below_step HB.out HB2.out⟩
    have elt : decide ((nd : Int) < C.f0) = true := decide_eq_true hlt
    have Hlt := Lib.hid hlt
    clear hlt
    go_wp2
    clear g0 elt
    obtain ⟨WO, rfl⟩ : ∃ W : World, W = wr := ⟨_, rfl⟩
    go_loopw [11, 12, 62] (fun v0 v1 i W => ∃ (k : Nat) (v v' : Value), k ≤ l.length ∧ i = .int .i64 k ∧ v = v0 ∧ v' = v1 ∧ Hid (Kd.R k32 32 W WO.heap.size (fun _ => True) v (ownOf nd (z.take k))) ∧ Hid (Kd.R kI 3 W WO.heap.size (fun _ => True) v' (wantOf nd (z.take k))) ∧ Hid (Below WO.heap.size WO W)) (fun _ _ i _ => l.length - (intOf i).toNat)
    case atStart => exact ⟨0, _, _, by omega, rfl, rfl, rfl, Lib.hid (Kd.R_nil _ _ _ _ _), Lib.hid (Kd.R_nil _ _ _ _ _), Lib.hid (Below.refl _ _)⟩
    case round =>
      obtain ⟨k, v, v', hk, rfl, rfl, rfl, HO, HW, HBI⟩ := hrel
      have HBV := Lib.hid (below_step HB2.out HBI.out)
      by_cases hlt : k < l.length
      · obtain ⟨ad, p, e1, p0, p1, p2, HX⟩ := at_S (Kd.C_below HL.out (below_step HB.out HBV.out)) k hlt
        subst e1
        obtain ⟨ao, o, e2, o0, HV⟩ := at_I (Kd.C_below (by have := HC1.out; rwa [← HOL.out] at this) HBV.out) k (by rw [HOL.out]; omega)
        subst e2
        have HZK := Lib.hid (show z[k]? = some (p, o) by rw [HZ.out]; exact zip_at HX.out HV.out)
        have HLE := Lib.hid (show (ownOf (nd : Int) (z.take k)).length ≤ 60 ∧ (wantOf (nd : Int) (z.take k)).length ≤ 60 by
          have := own_le (node := nd) (z := z.take k)
          rw [List.length_take] at this
          have := ownOf_len (nd : Int) (z.take k)
          omega)
        by_cases hn : p.f0 = (nd : Int)
        case neg =>
          have en : (p.f0 == (nd : Int)) = false := by simpa using hn
          have HS := Lib.hid (own_miss HZK.out hn)
          clear hn
          go_wp2
          go_roundw
          case rel => exact ⟨k + 1, v, v', by omega, by go_num, rfl, rfl, by rw [HS.out.1]; exact HO, by rw [HS.out.2]; exact HW, HBI⟩
          case measure => simp [intOf]; omega
        have en : (p.f0 == (nd : Int)) = true := by simpa using hn
        have HS := Lib.hid (own_hit HZK.out hn)
        clear hn
        have HCI := Lib.hid (Kd.C_below (by have := HC1.out; rwa [← HOL.out] at this) HB2.out)
        go_wp2_with (first
          | ((with_reducible refine gate_b (b := .append) (xs := #[.tmp 72, .tmp 77]) rfl ?_); at_builtin; refine Kd.R_append k32 (w0 := WO) WO.heap.size rfl (.tmp 72) (.tmp 77) 45 32 (.agg #[.int .i64 0, .int .i64 0, .int .i64 0]) 24 rfl Try.underlying45 info32 rfl (by decide) (by omega) v _ p [.int .i64 p.f0, .int .i64 p.f1, .int .i64 p.f2] (fun _ => True) (fun _ => False) rfl rfl (k32_mkM _ _ _ p) (fun _ hk => hk.elim) (fun _ _ => trivial) HO.out HBI.out HBI.out.size (by have := HLE.out.1; omega) ?_; intro v5 W5 ho5 hb5 hg5 hat5; have HO5 := Lib.hid ho5; have HB5 := Lib.hid hb5; have HW5 := Lib.hid (Kd.R_over HW.out HO.out (by decide) hg5); obtain ⟨ao5, o5', e5, o5, HV5⟩ := at_I (Kd.C_below HCI.out HB5.out) k (by rw [HOL.out]; omega); cases e5; obtain rfl : o = o5' := (by have := HV.out.symm.trans HV5.out; injection this); clear ho5 hb5 hg5 hat5 HV5)
          | ((with_reducible refine gate_b (b := .append) (xs := #[.tmp 79, .tmp 84]) rfl ?_); at_builtin; refine Kd.R_append kI (w0 := WO) WO.heap.size rfl (.tmp 79) (.tmp 84) 22 3 (.int .i64 0) 8 rfl Try.underlying22 info3 rfl (Nat.zero_lt_one) (by omega) v' _ o [.int .i64 o] (fun _ => True) (fun _ => False) rfl rfl rfl (fun _ hk => hk.elim) (fun _ _ => trivial) HW5.out HB5.out HB5.out.size (by have := HLE.out.2; omega) ?_; intro v6 W6 ho6 hb6 hg6 hat6; have HW6 := Lib.hid ho6; have HB6 := Lib.hid hb6; have HO6 := Lib.hid (Kd.R_over HO5.out HW5.out (by decide) hg6); clear ho6 hb6 hg6 hat6))
        go_roundw
        case rel => exact ⟨k + 1, _, _, by omega, by go_num, rfl, rfl, by rw [HS.out.1]; exact HO6, by rw [HS.out.2]; exact HW6, HB6⟩
        case measure => simp [intOf]; omega
      · have hke : z.take k = z := List.take_of_length_le (by rw [HZL.out]; omega)
        rw [hke] at HO HW
        clear hke
        obtain ⟨own, hown⟩ : ∃ own, own = ownOf (nd : Int) z := ⟨_, rfl⟩
        obtain ⟨wnt, hwnt⟩ : ∃ wnt, wnt = wantOf (nd : Int) z := ⟨_, rfl⟩
        have HOWN := Lib.hid hown
        have HWNT := Lib.hid hwnt
        rw [← hown] at HO
        rw [← hwnt] at HW
        have HLO := Lib.hid (show own.length ≤ 60 by rw [hown]; have := own_le (node := nd) (z := z); rw [HZL.out] at this; omega)
        have HMY := Lib.hid (show mayW C length offset own = 0 by rw [hown, HZ.out]; exact may_sub HNN.out.symm own_sub)
        have HTH := Lib.hid (show thr C length offset own own.length = wnt by
          have := others_law C length offset HL1.out nd l z (by rw [HZ.out, HOUT.out]) l.length (Nat.le_refl _)
          rw [List.take_of_length_le (by rw [HZL.out]; omega)] at this
          rw [hown, hwnt]; exact this)
        clear hown hwnt
        obtain ⟨Ao, co, rfl, hco, hCo⟩ := Kd.R_reads HO.out
        obtain ⟨Aw, cw, rfl, -, hCw⟩ := Kd.R_reads HW.out
        have HCo := Lib.hid hCo
        have HCw := Lib.hid hCw
        have HCi := Lib.hid (blk_keep HBV.out HC.out)
        have HKi := Lib.hid (blk_keep HBV.out HK.out)
        clear hCo hCw HO HW
        obtain ⟨g0, g1, g2, g3, g4, g5, g6, g7, g8, g9, g10, g11⟩ := cfg_cells HCi.out
        have k0 := blk_cell HKi.out 0
        have k1 := blk_cell HKi.out 1
        go_wp2_with fail
        refine (through_calls _ _ _ _ _ _ _ _ _ _ C _ (HR.out.below (below_step HB.out HBV.out)) length offset Ao co own HCo.out (by have := HLO.out; omega)).mono ?_
        rintro e V2 ⟨v2, rfl, hR2, hb⟩
        rw [HMY.out, if_pos rfl, HTH.out] at hR2
        obtain ⟨A2, d2, rfl, -, hC2⟩ := Kd.R_reads hR2
        have HC2 := Lib.hid hC2
        have HCw2 := Lib.hid (Kd.C_below HCw.out hb)
        have HBV2 := Lib.hid (below_step HBV.out hb)
        rw [HMY.out]
        clear hR2 hC2 hb g0 g1 g2 g3 g4 g5 g6 g7 g8 g9 g10 g11 k0 k1
        have hwl : wnt.length ≤ 60 := by rw [HWNT.out, ← ownOf_len, ← HOWN.out]; exact HLO.out
        go_wp2
        go_loopw [108] (fun i W => ∃ j : Nat, j ≤ wnt.length ∧ i = .int .i64 j ∧ Hid (Below V2.heap.size V2 W)) (fun i _ => wnt.length - (intOf i).toNat)
        case atStart => exact ⟨0, by omega, rfl, Lib.hid (Below.refl _ _)⟩
        case round =>
          obtain ⟨j, hj, rfl, HB3⟩ := hrel
          by_cases hlj : j < wnt.length
          · obtain ⟨ad1, x, e1, q1, HV1⟩ := at_I (Kd.C_below HC2.out HB3.out) j hlj
            obtain ⟨ad2, x', e2, q2, HV2⟩ := at_I (Kd.C_below HCw2.out HB3.out) j hlj
            obtain rfl : x = x' := by have := HV1.out.symm.trans HV2.out; injection this
            subst e1
            subst e2
            go_wp2
            go_quiet (fail)
            clear q1 q2
            go_wp2
            go_roundw
            case rel => exact ⟨j + 1, by omega, by go_num, Lib.hid (pw_below_drewN HB3.out _)⟩
            case measure => simp [intOf]; omega
          · have Hn := Hlt.out
            go_wp2
            go_roundw
            case rel => exact ⟨nd + 1, by omega, by go_num, below_step HBV2.out HB3.out |> Lib.hid⟩
            case measure => simp [intOf]; omega
end Go.Proofs.Ytloibbfihkfeeaa
