/- The walk of GuardHonest. -/
import Derived.Test.YtloibbfihkfeeaaGHp
import Derived.Test.YtloibbfihkfeeaaGU
import Derived.Test.YtloibbfihkfeeaaRegE
import Derived.Maps.Own
import Derived.Maps.OwnSet
namespace Go.Proofs.Ytloibbfihkfeeaa
set_option linter.unusedVariables false
set_option linter.unusedSimpArgs false
open Go.RowKit Go.Shelf Go.Maps Go.Proofs.YtloibbfihkfeeaaW.PrintWords Go.Proofs.YtloibbfihkfeeaaW.PrintLast

theorem keyInt : Keyed Try.prog 3 := int_keyed Try.underlying3
theorem zeroInt (w : World) : (zeroValue 3).run Try.prog w = .ok (.int .i64 0) w := by kernel_rfl
/-- The map of the slots that were seen. -/
def seenD (L : List (Int × Int)) : DataW Unit := L.foldl (fun d p => d.put (.int .i64 p.1) (.lit (.int .i64 1))) (.map [])
theorem seenD_snoc (L : List (Int × Int)) (p : Int × Int) : seenD (L ++ [p]) = (seenD L).put (.int .i64 p.1) (.lit (.int .i64 1)) := by simp [seenD]
theorem foldD_map (L : List (Int × Int)) : ∀ D : DataW Unit, IsMap D → IsMap (L.foldl (fun d p => d.put (.int .i64 p.1) (.lit (.int .i64 1))) D) := by
  induction L with
  | nil => exact fun D h => h
  | cons p L ih => exact fun D h => ih _ (h.put _ _)
theorem foldD_at (s : Int) (L : List (Int × Int)) : ∀ D : DataW Unit, IsMap D → (L.foldl (fun d p => d.put (.int .i64 p.1) (.lit (.int .i64 1))) D).atKey (.int .i64 s) (.lit (.int .i64 0)) = if s ∈ L.map Prod.fst then .lit (.int .i64 1) else D.atKey (.int .i64 s) (.lit (.int .i64 0)) := by
  induction L with
  | nil => intro D _; simp
  | cons p L ih =>
    intro D hD
    rw [List.foldl_cons, ih _ (hD.put _ _)]
    by_cases hm : s ∈ L.map Prod.fst
    · rw [if_pos hm, if_pos (by simp [hm])]
    · rw [if_neg hm]
      by_cases hp : s = p.1
      · subst hp
        rw [if_pos (by simp), atKey_put_same (k := .int .i64 p.1) hD trivial]
      · rw [if_neg (by rw [List.map_cons, List.mem_cons]; exact fun h => h.elim hp hm), atKey_put_other (fun h => by injection h with _ h; exact hp h)]
theorem seenD_at (s : Int) (L : List (Int × Int)) : (seenD L).atKey (.int .i64 s) (.lit (.int .i64 0)) = if s ∈ L.map Prod.fst then .lit (.int .i64 1) else .lit (.int .i64 0) := by
  unfold seenD
  rw [foldD_at s L _ isMap_empty]
  rfl
theorem at_O {w : World} {A : Option Addr} {l : List S34} (h : Kd.C k34 w A l.length l) (k : Nat) (hk : k < l.length) : ∃ ad x, A = some ad ∧ w.cell? (ad.add (k * 4)) = some (.int .i64 x.f0) ∧ w.cell? ⟨(ad.add (k * 4)).block, (ad.add (k * 4)).off + 1 + 1, none⟩ = some (.int .i64 x.f1.f1) ∧ Hid (l[k]? = some x) := by
  obtain ⟨ad, e, h0, h1, h2, h3⟩ := at_T34 h k (by omega) (by omega)
  exact ⟨ad, _, e, h0, h2, Lib.hid (by simp [rd_T34, List.getElem?_eq_getElem hk])⟩
set_option maxRecDepth 100000 in
set_option maxHeartbeats 16000000 in
theorem honest_calls (A1 A8 A9 A10 A11 : Option Addr) (c1 c8 c9 c10 c11 : Nat) (C : S28) (w : World) (h : CfgIn w C A1 A8 A9 A10 A11 c1 c8 c9 c10 c11) (length offset : Int) (hk1 : I64 length) (hk2 : I64 offset) (A : Option Addr) (c : Nat) (l : List S34) (hr : Kd.C k34 w A l.length l) (hc : l.length ≤ c) :
    Calls Try.prog 8 #[.agg #[.int .i64 C.f0, .slice A1 C.f1.length c1, .int .i64 C.f2, .int .i64 C.f3, .int .i64 C.f4, .int .i64 C.f5, .int .i64 C.f6, .int .i64 C.f7, .slice A8 C.f8.length c8, .slice A9 C.f9.length c9, .slice A10 C.f10.length c10, .slice A11 C.f11.length c11], .agg #[.int .i64 length, .int .i64 offset], .slice A l.length c] w fun e w' => e = .returned (.bool true) ∧ Below w.heap.size w w' := by
  have HR := Lib.hid h
  have HL := Lib.hid hr
  have HB := Lib.hid (show Below w.heap.size w ((w.alloc (Obj.cells #[.int .i64 C.f0, .slice A1 C.f1.length c1, .int .i64 C.f2, .int .i64 C.f3, .int .i64 C.f4, .int .i64 C.f5, .int .i64 C.f6, .int .i64 C.f7, .slice A8 C.f8.length c8, .slice A9 C.f9.length c9, .slice A10 C.f10.length c10, .slice A11 C.f11.length c11] 28)).alloc (Obj.cells #[.int .i64 length, .int .i64 offset] 30)) from ((Below.refl _ _).alloc (Nat.le_refl _) _).alloc (by simp) _)
  have HC := Lib.hid (blk_alloc (blk_new w (Obj.cells #[.int .i64 C.f0, .slice A1 C.f1.length c1, .int .i64 C.f2, .int .i64 C.f3, .int .i64 C.f4, .int .i64 C.f5, .int .i64 C.f6, .int .i64 C.f7, .slice A8 C.f8.length c8, .slice A9 C.f9.length c9, .slice A10 C.f10.length c10, .slice A11 C.f11.length c11] 28)) (Obj.cells #[.int .i64 length, .int .i64 offset] 30))
  have HK := Lib.hid (show ((w.alloc (Obj.cells #[.int .i64 C.f0, .slice A1 C.f1.length c1, .int .i64 C.f2, .int .i64 C.f3, .int .i64 C.f4, .int .i64 C.f5, .int .i64 C.f6, .int .i64 C.f7, .slice A8 C.f8.length c8, .slice A9 C.f9.length c9, .slice A10 C.f10.length c10, .slice A11 C.f11.length c11] 28)).alloc (Obj.cells #[.int .i64 length, .int .i64 offset] 30)).heap[w.heap.size + 1]? = some (Obj.cells #[.int .i64 length, .int .i64 offset] 30) from blk_new_at _ _ (by simp))
  have HK1 := Lib.hid hk1
  clear h hr hk1 hk2
  go_enter Try.func8, Try.ntmps8
  go_wp2_with fail
  refine (alive_calls _).mono ?_
  rintro e W1 ⟨rfl, hb⟩
  replace HC := Lib.hid (blk_keep hb HC.out)
  replace HK := Lib.hid (blk_keep hb HK.out)
  replace HB := Lib.hid (below_step HB.out hb)
  clear hb
  obtain ⟨g0, g1, g2, g3, g4, g5, g6, g7, g8, g9, g10, g11⟩ := cfg_cells HC.out
  obtain ⟨gr, hgr⟩ : ∃ gr, gr = greatB C := ⟨_, rfl⟩
  have HG := Lib.hid hgr
  clear hgr
  go_wp2_with fail
  refine (great_calls _ _ _ _ _ _ _ _ _ _ C _ (HR.out.below HB.out)).mono ?_
  rintro e W2 ⟨rfl, hb⟩
  rw [← HG.out]
  clear g0 g1 g2 g3 g4 g5 g6 g7 g8 g9 g10 g11
  replace HC := Lib.hid (blk_keep hb HC.out)
  replace HK := Lib.hid (blk_keep hb HK.out)
  replace HB := Lib.hid (below_step HB.out hb)
  clear hb
  cases gr
  case true =>
    go_wp2
    go_ret
    exact ⟨rfl, HB.out⟩
  by_cases h60 : l.length ≤ 60
  case neg =>
    have e60 : decide (60 < (l.length : Int)) = true := decide_eq_true (by omega)
    go_wp2
    go_ret
    exact ⟨rfl, HB.out⟩
  have e60 : decide (60 < (l.length : Int)) = false := decide_eq_false (by omega)
  have hmm := @run_makeMap Try.prog
  obtain ⟨n, hn⟩ : ∃ n, n = checkN C := ⟨_, rfl⟩
  have HNN := Lib.hid hn
  clear hn
  obtain ⟨g0, g1, g2, g3, g4, g5, g6, g7, g8, g9, g10, g11⟩ := cfg_cells HC.out
  go_wp2_with fail
  refine (check_calls _ _ _ _ _ _ _ _ _ _ C _ (HR.out.below HB.out)).mono ?_
  rintro e V1 ⟨rfl, hb⟩
  rw [← HNN.out]
  clear g0 g1 g2 g3 g4 g5 g6 g7 g8 g9 g10 g11
  replace HC := Lib.hid (blk_keep hb HC.out)
  replace HK := Lib.hid (blk_keep hb HK.out)
  replace HB := Lib.hid (below_step HB.out hb)
  clear hb
  by_cases h0 : n = 0
  case neg =>
    have e0 : (n != 0) = true := by simpa using h0
    clear h0
    go_wp2
    go_ret
    exact ⟨rfl, HB.out⟩
  subst h0
  obtain ⟨m0, m1⟩ := check_margin HNN.out.symm
  have k0 := blk_cell HK.out 0
  have k1 := blk_cell HK.out 1
  have g4 := (cfg_cells HC.out).2.2.2.2.1
  by_cases l1 : length < 2 * C.f4 + 1
  · go_wp2
    go_ret
    exact ⟨rfl, HB.out⟩
  by_cases l2 : 16777216 < length
  · go_wp2
    go_ret
    exact ⟨rfl, HB.out⟩
  by_cases o1 : offset < -1000000
  · go_wp2
    go_ret
    exact ⟨rfl, HB.out⟩
  by_cases o2 : 1000000 < offset
  · go_wp2
    go_ret
    exact ⟨rfl, HB.out⟩
  have HON := Lib.hid (show HonI C length offset from ⟨HNN.out.symm, by omega, by omega, by omega, by omega⟩)
  have hmade := World.ownsMap_made V1 Try.prog 3 (plainElem (H := Unit) Try.prog 3)
  have hba : Below V1.heap.size V1 (V1.alloc (.map #[] 0)) := (Below.refl _ _).alloc (Nat.le_refl _) _
  have HBV := Lib.hid (below_step HB.out hba)
  have HCV := Lib.hid (blk_keep hba HC.out)
  have HKV := Lib.hid (blk_keep hba HK.out)
  have HMV := Lib.hid hmade
  have HLT := Lib.hid (show w.heap.size + 1 < V1.heap.size from blk_lt HK.out)
  clear hmade hba
  go_wp2
  clear k0 k1 g4
  generalize hVM : V1.alloc (.map #[] 0) = VM at *
  generalize V1.heap.size = mb at *
  clear hVM HB HC HK hmm
  go_loopw [9, 68] (fun v0 i W => ∃ (k : Nat) (v : Value) (L : List (Int × Int)), k ≤ l.length ∧ i = .int .i64 k ∧ v = v0 ∧ Hid (L.length ≤ k) ∧ Hid (∀ p ∈ L, HonP C p) ∧ Hid ((L.map Prod.fst).Nodup) ∧ Hid (Kd.R k32 32 W VM.heap.size (fun _ => True) v (L.map (pl C length offset))) ∧ Hid (W.ownsMap Try.prog 3 (plainElem (H := Unit) Try.prog 3) mb k (seenD L)) ∧ Hid (VM.heap.size ≤ W.heap.size) ∧ Hid (Below w.heap.size w W) ∧ Hid (W.heap[w.heap.size]? = some (Obj.cells #[.int .i64 C.f0, .slice A1 C.f1.length c1, .int .i64 C.f2, .int .i64 C.f3, .int .i64 C.f4, .int .i64 C.f5, .int .i64 C.f6, .int .i64 C.f7, .slice A8 C.f8.length c8, .slice A9 C.f9.length c9, .slice A10 C.f10.length c10, .slice A11 C.f11.length c11] 28)) ∧ Hid (W.heap[w.heap.size + 1]? = some (Obj.cells #[.int .i64 length, .int .i64 offset] 30))) (fun _ i _ => l.length - (intOf i).toNat)
  case atStart => exact ⟨0, _, [], by omega, rfl, rfl, Lib.hid (by simp), Lib.hid (by simp), Lib.hid (by simp), Lib.hid (Kd.R_nil _ _ _ _ _), HMV, Lib.hid (Nat.le_refl _), HBV, HCV, HKV⟩
  case round =>
    clear HBV HCV HKV
    obtain ⟨k, v, L, hk, rfl, rfl, HLL, HLP, HLN, HO, HM, HSZ, HB, HC, HK⟩ := hrel
    by_cases hlt : k < l.length
    · obtain ⟨ad, x, e1, x0, x2, HX⟩ := at_O (Kd.C_below HL.out HB.out) k hlt
      subst e1
      obtain ⟨s, hs⟩ : ∃ s, s = x.f0 := ⟨_, rfl⟩
      obtain ⟨fr, hfr⟩ : ∃ fr, fr = x.f1.f1 := ⟨_, rfl⟩
      rw [← hs] at x0
      rw [← hfr] at x2
      have HFR := Lib.hid hfr
      clear hs hfr
      by_cases s1 : s < 0
      · go_wp2
        go_roundw
        case rel => exact ⟨k + 1, v, L, by omega, by go_num, rfl, Lib.hid (by have := HLL.out; omega), HLP, HLN, HO, Lib.hid (HM.out.mono (by omega)), HSZ, HB, HC, HK⟩
        case measure => simp [intOf]; omega
      by_cases s2 : 1000000 < s
      · go_wp2
        go_roundw
        case rel => exact ⟨k + 1, v, L, by omega, by go_num, rfl, Lib.hid (by have := HLL.out; omega), HLP, HLN, HO, Lib.hid (HM.out.mono (by omega)), HSZ, HB, HC, HK⟩
        case measure => simp [intOf]; omega
      have hkey : keyOf Try.prog 3 (.int .i64 s) = some (.int .i64 s) := keyOf_int_mk Try.underlying3 (by simp [Lit.wf, IntKind.min, IntKind.max, IntKind.signed, IntKind.bits]; omega)
      obtain ⟨c0, hrun, hat, -⟩ := HM.out.lookup_int keyInt Try.underlying61 Try.underlying3 (zeroInt _) hkey
      rw [seenD_at] at hat
      by_cases hin : s ∈ L.map Prod.fst
      · have hc1 : c0 = 1 := by rw [if_pos hin] at hat; injection hat with hat; injection hat with _ hat; exact hat.symm
        subst hc1
        clear hat hin
        go_wp2
        clear hrun
        go_roundw
        case rel => exact ⟨k + 1, v, L, by omega, by go_num, rfl, Lib.hid (by have := HLL.out; omega), HLP, HLN, HO, Lib.hid (HM.out.mono (by omega)), HSZ, HB, HC, HK⟩
        case measure => simp [intOf]; omega
      have hc1 : c0 = 0 := by rw [if_neg hin] at hat; injection hat with hat; injection hat with _ hat; exact hat.symm
      subst hc1
      have HIN := Lib.hid hin
      clear hat hin
      go_wp2_with (first | (at_mapUpdate; refine wpList_mapUpdate_own _ rfl _ _ _ 61 rfl 3 3 keyInt Try.underlying61 _ mb k _ rfl HM.out (by unfold maxLen; omega) _ _ _ rfl rfl hkey _ [] (plainElem_int Try.underlying3 (by decide)) ?_; intro W1 hown1 hg1; have hlm := HM.out.lt; have HM1 := Lib.hid (show W1.ownsMap Try.prog 3 (plainElem (H := Unit) Try.prog 3) mb (k + 1) ((seenD L).put (.int .i64 s) (.lit (.int .i64 1))) from hown1); have HO1 := Lib.hid (Kd.R_mono (Kd.R_step (Kd.R_bound HO.out) (fun k' hk' _ => hg1.block k' hk'.2.2.1 (by intro he; injection he with he; have := hk'.2.1; have := HMV.out.lt; omega))) (fun k' _ => trivial)); have HB1 := Lib.hid (pw_below_grown HB.out _ HB.out.size hg1 (fun k' he => by injection he with he; have := HLT.out; omega)); have HC1 := Lib.hid (blk_grown HC.out hg1 (by intro he; injection he with he; have := HLT.out; omega)); have HK1' := Lib.hid (blk_grown HK.out hg1 (by intro he; injection he with he; have := HLT.out; omega)); have HSZ1 := Lib.hid (Nat.le_trans HSZ.out hg1.size); clear hown1 hg1 hlm))
      obtain ⟨ad', x', e1, -, x2', HX'⟩ := at_O (Kd.C_below HL.out HB1.out) k hlt
      cases e1
      obtain rfl : x = x' := by have := HX.out.symm.trans HX'.out; injection this
      rw [← HFR.out] at x2'
      obtain ⟨a, ha⟩ : ∃ a, a = fr.tmod (C.f4 + 1) := ⟨_, rfl⟩
      have ha1 : -C.f4 ≤ a := by rw [ha]; have := Int.lt_tmod_of_pos fr (b := C.f4 + 1) (by omega); omega
      have ha2 : a ≤ C.f4 := by rw [ha]; have := Int.tmod_lt_of_pos fr (b := C.f4 + 1) (by omega); omega
      have HPP := Lib.hid (show HonP C (s, a) from ⟨by omega, by omega, ha1, ha2⟩)
      have w1 : IntKind.i64.wrap (C.f4 + 1) = C.f4 + 1 := IntWalk.i64_in _ (by omega)
      have ez : (C.f4 + 1 == 0) = false := beq_eq_false_iff_ne.2 (by omega)
      have w2 : IntKind.i64.wrap (fr.tmod (C.f4 + 1)) = fr.tmod (C.f4 + 1) := IntWalk.i64_in _ (by rw [← ha]; omega)
      have w3 : IntKind.i64.wrap (offset + a) = offset + a := IntWalk.i64_in _ (by omega)
      obtain ⟨g0, g1, g2, g3, g4, g5, g6, g7, g8, g9, g10, g11⟩ := cfg_cells HC1.out
      have k0 := blk_cell HK1'.out 0
      have k1 := blk_cell HK1'.out 1
      clear x0 x2 hrun hkey HM HO HB HC HK HSZ
      go_quiet (fail)
      rw [← ha]
      clear ha w1 w2 ez x2'
      go_wp2_with fail
      refine (plan_calls _ _ _ _ _ _ _ _ _ _ C _ (HR.out.below (pw_below_drewN HB1.out _)) length s (offset + a)).mono ?_
      rintro e W2 ⟨rfl, hb⟩
      rw [hon_plan HON.out (p := (s, a)) HPP.out]
      obtain ⟨y, hy⟩ : ∃ y, y = pl C length offset (s, a) := ⟨_, rfl⟩
      rw [← hy]
      have HY := Lib.hid hy
      clear hy w3
      have HB2 := Lib.hid (below_step (pw_below_drewN HB1.out _) hb)
      have HC2 := Lib.hid (blk_keep hb (blk_drewN HC1.out _))
      have HK2 := Lib.hid (blk_keep hb (blk_drewN HK1'.out _))
      have HO2 := Lib.hid (Kd.R_below (Kd.R_drewN HO1.out _) hb)
      have HM2 := Lib.hid (World.ownsMap.kept (show (W1.drewN _).ownsMap Try.prog 3 (plainElem (H := Unit) Try.prog 3) mb (k + 1) _ from HM1.out) (grown_of_below hb none) (by simp))
      have HSZ2 := Lib.hid (Nat.le_trans HSZ1.out hb.size)
      clear hb g0 g1 g2 g3 g4 g5 g6 g7 g8 g9 g10 g11 k0 k1 HB1 HC1 HK1' HO1 HM1 HSZ1
      obtain ⟨o, f, t⟩ := y
      have ho : o = ownerW C s := congrArg S32.f0 HY.out
      have hf : f = s * length - (offset + a) + C.f4 := congrArg S32.f1 HY.out
      have ht : t = s * length - (offset + a) + length - C.f4 := congrArg S32.f2 HY.out
      have HMY := Lib.hid (show mayW C length offset [⟨o, f, t⟩] = 0 by rw [HY.out]; exact hon_may0 HON.out (by simpa using pl_ok HON.out HPP.out))
      have HVY := Lib.hid (show verdictW C length offset ⟨o, f, t⟩ = 0 by rw [HY.out]; exact pl_verdict HON.out HPP.out)
      have HLY := Lib.hid (show liesW length offset ⟨o, f, t⟩ = s by rw [HY.out]; exact pl_lies HON.out HPP.out)
      have HBD := Lib.hid (pl_bd HON.out HPP.out)
      have HOW := Lib.hid ho
      have HTF := Lib.hid (show t - f = length - 2 * C.f4 by omega)
      have HFB := Lib.hid (show -1152921504606846976 ≤ f ∧ f ≤ 1152921504606846976 ∧ -1152921504606846976 ≤ t ∧ t ≤ 1152921504606846976 by have := HBD.out; simp only at this; omega)
      clear ho hf ht
      have hba : Below W2.heap.size W2 (W2.alloc (Obj.cells #[.int .i64 o, .int .i64 f, .int .i64 t] 32)) := (Below.refl _ _).alloc (Nat.le_refl _) _
      have hX := blk_new W2 (Obj.cells #[.int .i64 o, .int .i64 f, .int .i64 t] 32)
      have hB := below_step HB2.out hba
      have hC := blk_keep hba HC2.out
      have hK := blk_keep hba HK2.out
      have hO := Kd.R_below HO2.out hba
      have hM := HM2.out.alloc (Obj.cells #[.int .i64 o, .int .i64 f, .int .i64 t] 32)
      have hZ := Nat.le_trans HSZ2.out hba.size
      have hXZ := HSZ2.out
      clear HB2 HC2 HK2 HO2 HM2 HSZ2 hba
      obtain ⟨g0, g1, g2, g3, g4, g5, g6, g7, g8, g9, g10, g11⟩ := cfg_cells hC
      have k0 := blk_cell hK 0
      have k1 := blk_cell hK 1
      go_wp2_with fail
      refine (verdict_calls _ _ _ _ _ _ _ _ _ _ C _ (HR.out.below hB) length offset ⟨o, f, t⟩).mono ?_
      rintro e W3 ⟨rfl, hb⟩
      rw [HMY.out, if_pos rfl, HVY.out]
      have HB3 := Lib.hid (below_step hB hb)
      have HC3 := Lib.hid (blk_keep hb hC)
      have HK3 := Lib.hid (blk_keep hb hK)
      have HX3 := Lib.hid (blk_keep hb hX)
      have HO3 := Lib.hid (Kd.R_below hO hb)
      have HM3 := Lib.hid (World.ownsMap.kept hM (grown_of_below hb none) (by simp))
      have HZ3 := Lib.hid (Nat.le_trans hZ hb.size)
      clear hb hB hC hK hX hO hM hZ hXZ g0 g1 g2 g3 g4 g5 g6 g7 g8 g9 g10 g11 k0 k1
      generalize W2.heap.size = xb at *
      obtain ⟨g0, g1, g2, g3, g4, g5, g6, g7, g8, g9, g10, g11⟩ := cfg_cells HC3.out
      have k0 := blk_cell HK3.out 0
      have k1 := blk_cell HK3.out 1
      have x0 := blk_cell HX3.out 0
      have x1 := blk_cell HX3.out 1
      have x2 := blk_cell HX3.out 2
      go_wp2_with fail
      refine (slot_calls _ _ _ _ _ _ _ _ _ _ C _ (HR.out.below HB3.out) length offset ⟨o, f, t⟩).mono ?_
      rintro e W4 ⟨rfl, hb⟩
      rw [HMY.out, if_pos rfl, HLY.out]
      have HB4 := Lib.hid (below_step HB3.out hb)
      have HC4 := Lib.hid (blk_keep hb HC3.out)
      have HK4 := Lib.hid (blk_keep hb HK3.out)
      have HX4 := Lib.hid (blk_keep hb HX3.out)
      have HO4 := Lib.hid (Kd.R_below HO3.out hb)
      have HM4 := Lib.hid (World.ownsMap.kept HM3.out (grown_of_below hb none) (by simp))
      have HZ4 := Lib.hid (Nat.le_trans HZ3.out hb.size)
      clear hb HB3 HC3 HK3 HX3 HO3 HM3 HZ3 g0 g1 g2 g3 g4 g5 g6 g7 g8 g9 g10 g11 k0 k1 x0 x1 x2
      obtain ⟨g0, g1, g2, g3, g4, g5, g6, g7, g8, g9, g10, g11⟩ := cfg_cells HC4.out
      have k0 := blk_cell HK4.out 0
      have x0 := blk_cell HX4.out 0
      have x1 := blk_cell HX4.out 1
      have x2 := blk_cell HX4.out 2
      have w1 : IntKind.i64.wrap (t - f) = t - f := IntWalk.i64_in _ (by have := HFB.out; omega)
      have w2 : IntKind.i64.wrap (2 * C.f4) = 2 * C.f4 := IntWalk.i64_in _ (by omega)
      have w3 : IntKind.i64.wrap (length - 2 * C.f4) = length - 2 * C.f4 := IntWalk.i64_in _ (by omega)
      have etf : (t - f != length - 2 * C.f4) = false := by rw [HTF.out]; simp
      go_wp2
      apply region_z (N := 41) (ds := []) #[false, false, false, false, false, false, false, false, false, false, false, false, false, false, false, false, false, false, false, false, false, false, false, false, false, false, false, false, false, false, false, false, false, false, false, false, false, false, false, false, false]
      · kernel_rfl
      · rfl
      · rfl
      · intro Wd hS
        refine pure_ (i := 0) (N := some 132) (v := ?_) (a' := ?_) #[true, false, false, false, false, false, false, false, false, false, false, false, false, false, false, false, false, false, false, false, false, false, false, false, false, false, false, false, false, false, false, false, false, false, false, false, false, false, false, false, false] rfl rfl (by kernel_rfl) (fun _ _ _ h => by cases h.1) (Or.inl ⟨by rfl, ?_⟩) ?_ ?_
        rotate_left
        · intro w'
          go_simp
          with_reducible rfl
        rotate_left
        · simp only [Act.put, List.setIfInBounds_toArray, List.set_cons_zero, List.set_cons_succ]
          rfl
        refine pure_ (i := 1) (N := some 133) (v := ?_) (a' := ?_) #[true, true, false, false, false, false, false, false, false, false, false, false, false, false, false, false, false, false, false, false, false, false, false, false, false, false, false, false, false, false, false, false, false, false, false, false, false, false, false, false, false] rfl rfl (by kernel_rfl) (fun _ _ _ h => by cases h.1) (Or.inl ⟨by rfl, ?_⟩) ?_ ?_
        rotate_left
        · intro w'
          go_simp
          with_reducible rfl
        rotate_left
        · simp only [Act.put, List.setIfInBounds_toArray, List.set_cons_zero, List.set_cons_succ]
          rfl
        refine pure_ (i := 2) (N := some 134) (v := ?_) (a' := ?_) #[true, true, true, false, false, false, false, false, false, false, false, false, false, false, false, false, false, false, false, false, false, false, false, false, false, false, false, false, false, false, false, false, false, false, false, false, false, false, false, false, false] rfl rfl (by kernel_rfl) (fun _ _ _ h => by cases h.1) (Or.inl ⟨by rfl, ?_⟩) ?_ ?_
        rotate_left
        · intro w'
          go_simp
          with_reducible rfl
        rotate_left
        · simp only [Act.put, List.setIfInBounds_toArray, List.set_cons_zero, List.set_cons_succ]
          rfl
        refine pure_ (i := 3) (N := some 135) (v := ?_) (a' := ?_) #[true, true, true, true, false, false, false, false, false, false, false, false, false, false, false, false, false, false, false, false, false, false, false, false, false, false, false, false, false, false, false, false, false, false, false, false, false, false, false, false, false] rfl rfl (by kernel_rfl) (fun _ _ _ h => by cases h.1) (Or.inl ⟨by rfl, ?_⟩) ?_ ?_
        rotate_left
        · intro w'
          go_simp
          with_reducible rfl
        rotate_left
        · simp only [Act.put, List.setIfInBounds_toArray, List.set_cons_zero, List.set_cons_succ]
          rfl
        refine pure_ (i := 4) (N := some 136) (v := ?_) (a' := ?_) #[true, true, true, true, true, false, false, false, false, false, false, false, false, false, false, false, false, false, false, false, false, false, false, false, false, false, false, false, false, false, false, false, false, false, false, false, false, false, false, false, false] rfl rfl (by kernel_rfl) (fun _ _ _ h => by cases h.1) (Or.inl ⟨by rfl, ?_⟩) ?_ ?_
        rotate_left
        · intro w'
          go_simp
          with_reducible rfl
        rotate_left
        · simp only [Act.put, List.setIfInBounds_toArray, List.set_cons_zero, List.set_cons_succ]
          rfl
        refine pure_ (i := 5) (N := some 137) (v := ?_) (a' := ?_) #[true, true, true, true, true, true, false, false, false, false, false, false, false, false, false, false, false, false, false, false, false, false, false, false, false, false, false, false, false, false, false, false, false, false, false, false, false, false, false, false, false] rfl rfl (by kernel_rfl) (fun _ _ _ h => by cases h.1) (Or.inl ⟨by rfl, ?_⟩) ?_ ?_
        rotate_left
        · intro w'
          go_simp
          with_reducible rfl
        rotate_left
        · simp only [Act.put, List.setIfInBounds_toArray, List.set_cons_zero, List.set_cons_succ]
          rfl
        refine pure_ (i := 6) (N := some 138) (v := ?_) (a' := ?_) #[true, true, true, true, true, true, true, false, false, false, false, false, false, false, false, false, false, false, false, false, false, false, false, false, false, false, false, false, false, false, false, false, false, false, false, false, false, false, false, false, false] rfl rfl (by kernel_rfl) (fun _ _ _ h => by cases h.1) (Or.inl ⟨by rfl, ?_⟩) ?_ ?_
        rotate_left
        · intro w'
          go_simp
          with_reducible rfl
        rotate_left
        · simp only [Act.put, List.setIfInBounds_toArray, List.set_cons_zero, List.set_cons_succ]
          rfl
        refine pure_ (i := 7) (N := some 139) (v := ?_) (a' := ?_) #[true, true, true, true, true, true, true, true, false, false, false, false, false, false, false, false, false, false, false, false, false, false, false, false, false, false, false, false, false, false, false, false, false, false, false, false, false, false, false, false, false] rfl rfl (by kernel_rfl) (fun _ _ _ h => by cases h.1) (Or.inl ⟨by rfl, ?_⟩) ?_ ?_
        rotate_left
        · intro w'
          go_simp
          with_reducible rfl
        rotate_left
        · simp only [Act.put, List.setIfInBounds_toArray, List.set_cons_zero, List.set_cons_succ]
          rfl
        refine pure_ (i := 8) (N := some 140) (v := ?_) (a' := ?_) #[true, true, true, true, true, true, true, true, true, false, false, false, false, false, false, false, false, false, false, false, false, false, false, false, false, false, false, false, false, false, false, false, false, false, false, false, false, false, false, false, false] rfl rfl (by kernel_rfl) (fun _ _ _ h => by cases h.1) (Or.inl ⟨by rfl, ?_⟩) ?_ ?_
        rotate_left
        · intro w'
          go_simp
          with_reducible rfl
        rotate_left
        · simp only [Act.put, List.setIfInBounds_toArray, List.set_cons_zero, List.set_cons_succ]
          rfl
        refine pure_ (i := 9) (N := some 141) (v := ?_) (a' := ?_) #[true, true, true, true, true, true, true, true, true, true, false, false, false, false, false, false, false, false, false, false, false, false, false, false, false, false, false, false, false, false, false, false, false, false, false, false, false, false, false, false, false] rfl rfl (by kernel_rfl) (fun _ _ _ h => by cases h.1) (Or.inl ⟨by rfl, ?_⟩) ?_ ?_
        rotate_left
        · intro w'
          go_simp
          with_reducible rfl
        rotate_left
        · simp only [Act.put, List.setIfInBounds_toArray, List.set_cons_zero, List.set_cons_succ]
          rfl
        refine pure_ (i := 10) (N := some 142) (v := ?_) (a' := ?_) #[true, true, true, true, true, true, true, true, true, true, true, false, false, false, false, false, false, false, false, false, false, false, false, false, false, false, false, false, false, false, false, false, false, false, false, false, false, false, false, false, false] rfl rfl (by kernel_rfl) (fun _ _ _ h => by cases h.1) (Or.inl ⟨by rfl, ?_⟩) ?_ ?_
        rotate_left
        · intro w'
          go_simp
          with_reducible rfl
        rotate_left
        · simp only [Act.put, List.setIfInBounds_toArray, List.set_cons_zero, List.set_cons_succ]
          rfl
        refine pure_ (i := 11) (N := some 143) (v := ?_) (a' := ?_) #[true, true, true, true, true, true, true, true, true, true, true, true, false, false, false, false, false, false, false, false, false, false, false, false, false, false, false, false, false, false, false, false, false, false, false, false, false, false, false, false, false] rfl rfl (by kernel_rfl) (fun _ _ _ h => by cases h.1) (Or.inl ⟨by rfl, ?_⟩) ?_ ?_
        rotate_left
        · intro w'
          go_simp
          with_reducible rfl
        rotate_left
        · simp only [Act.put, List.setIfInBounds_toArray, List.set_cons_zero, List.set_cons_succ]
          rfl
        refine pure_ (i := 12) (N := some 144) (v := ?_) (a' := ?_) #[true, true, true, true, true, true, true, true, true, true, true, true, true, false, false, false, false, false, false, false, false, false, false, false, false, false, false, false, false, false, false, false, false, false, false, false, false, false, false, false, false] rfl rfl (by kernel_rfl) (fun _ _ _ h => by cases h.1) (Or.inl ⟨by rfl, ?_⟩) ?_ ?_
        rotate_left
        · intro w'
          go_simp
          with_reducible rfl
        rotate_left
        · simp only [Act.put, List.setIfInBounds_toArray, List.set_cons_zero, List.set_cons_succ]
          rfl
        refine pure_ (i := 13) (N := some 145) (v := ?_) (a' := ?_) #[true, true, true, true, true, true, true, true, true, true, true, true, true, true, false, false, false, false, false, false, false, false, false, false, false, false, false, false, false, false, false, false, false, false, false, false, false, false, false, false, false] rfl rfl (by kernel_rfl) (fun _ _ _ h => by cases h.1) (Or.inl ⟨by rfl, ?_⟩) ?_ ?_
        rotate_left
        · intro w'
          go_simp
          with_reducible rfl
        rotate_left
        · simp only [Act.put, List.setIfInBounds_toArray, List.set_cons_zero, List.set_cons_succ]
          rfl
        refine pure_ (i := 14) (N := some 146) (v := ?_) (a' := ?_) #[true, true, true, true, true, true, true, true, true, true, true, true, true, true, true, false, false, false, false, false, false, false, false, false, false, false, false, false, false, false, false, false, false, false, false, false, false, false, false, false, false] rfl rfl (by kernel_rfl) (fun _ _ _ h => by cases h.1) (Or.inl ⟨by rfl, ?_⟩) ?_ ?_
        rotate_left
        · intro w'
          go_simp
          with_reducible rfl
        rotate_left
        · simp only [Act.put, List.setIfInBounds_toArray, List.set_cons_zero, List.set_cons_succ]
          rfl
        refine pure_ (i := 15) (N := some 147) (v := ?_) (a' := ?_) #[true, true, true, true, true, true, true, true, true, true, true, true, true, true, true, true, false, false, false, false, false, false, false, false, false, false, false, false, false, false, false, false, false, false, false, false, false, false, false, false, false] rfl rfl (by kernel_rfl) (fun _ _ _ h => by cases h.1) (Or.inl ⟨by rfl, ?_⟩) ?_ ?_
        rotate_left
        · intro w'
          go_simp
          with_reducible rfl
        rotate_left
        · simp only [Act.put, List.setIfInBounds_toArray, List.set_cons_zero, List.set_cons_succ]
          rfl
        refine pure_ (i := 16) (N := some 148) (v := ?_) (a' := ?_) #[true, true, true, true, true, true, true, true, true, true, true, true, true, true, true, true, true, false, false, false, false, false, false, false, false, false, false, false, false, false, false, false, false, false, false, false, false, false, false, false, false] rfl rfl (by kernel_rfl) (fun _ _ _ h => by cases h.1) (Or.inl ⟨by rfl, ?_⟩) ?_ ?_
        rotate_left
        · intro w'
          go_simp
          with_reducible rfl
        rotate_left
        · simp only [Act.put, List.setIfInBounds_toArray, List.set_cons_zero, List.set_cons_succ]
          rfl
        refine pure_ (i := 17) (N := some 149) (v := ?_) (a' := ?_) #[true, true, true, true, true, true, true, true, true, true, true, true, true, true, true, true, true, true, false, false, false, false, false, false, false, false, false, false, false, false, false, false, false, false, false, false, false, false, false, false, false] rfl rfl (by kernel_rfl) (fun _ _ _ h => by cases h.1) (Or.inl ⟨by rfl, ?_⟩) ?_ ?_
        rotate_left
        · intro w'
          go_simp
          with_reducible rfl
        rotate_left
        · simp only [Act.put, List.setIfInBounds_toArray, List.set_cons_zero, List.set_cons_succ]
          rfl
        refine pure_ (i := 18) (N := some 150) (v := ?_) (a' := ?_) #[true, true, true, true, true, true, true, true, true, true, true, true, true, true, true, true, true, true, true, false, false, false, false, false, false, false, false, false, false, false, false, false, false, false, false, false, false, false, false, false, false] rfl rfl (by kernel_rfl) (fun _ _ _ h => by cases h.1) (Or.inl ⟨by rfl, ?_⟩) ?_ ?_
        rotate_left
        · intro w'
          go_simp
          with_reducible rfl
        rotate_left
        · simp only [Act.put, List.setIfInBounds_toArray, List.set_cons_zero, List.set_cons_succ]
          rfl
        refine pure_ (i := 19) (N := some 151) (v := ?_) (a' := ?_) #[true, true, true, true, true, true, true, true, true, true, true, true, true, true, true, true, true, true, true, true, false, false, false, false, false, false, false, false, false, false, false, false, false, false, false, false, false, false, false, false, false] rfl rfl (by kernel_rfl) (fun _ _ _ h => by cases h.1) (Or.inl ⟨by rfl, ?_⟩) ?_ ?_
        rotate_left
        · intro w'
          go_simp
          with_reducible rfl
        rotate_left
        · simp only [Act.put, List.setIfInBounds_toArray, List.set_cons_zero, List.set_cons_succ]
          rfl
        refine pure_ (i := 20) (N := some 152) (v := ?_) (a' := ?_) #[true, true, true, true, true, true, true, true, true, true, true, true, true, true, true, true, true, true, true, true, true, false, false, false, false, false, false, false, false, false, false, false, false, false, false, false, false, false, false, false, false] rfl rfl (by kernel_rfl) (fun _ _ _ h => by cases h.1) (Or.inl ⟨by rfl, ?_⟩) ?_ ?_
        rotate_left
        · intro w'
          go_simp
          with_reducible rfl
        rotate_left
        · simp only [Act.put, List.setIfInBounds_toArray, List.set_cons_zero, List.set_cons_succ]
          rfl
        refine take_ (i := 21) (N := some 153) (v := ?_) (a' := ?_) #[true, true, true, true, true, true, true, true, true, true, true, true, true, true, true, true, true, true, true, true, true, true, false, false, false, false, false, false, false, false, false, false, false, false, false, false, false, false, false, false, false] rfl rfl (by kernel_rfl) (fun _ _ _ h => by cases h.1) (Or.inl ⟨by rfl, ?_⟩) hS ?_ ?_
        rotate_left
        · intro w' hb
          have s0 := hb.cell x0
          go_simp
          with_reducible rfl
        rotate_left
        · simp only [Act.put, List.setIfInBounds_toArray, List.set_cons_zero, List.set_cons_succ]
          rfl
        refine take_ (i := 22) (N := some 154) (v := ?_) (a' := ?_) #[true, true, true, true, true, true, true, true, true, true, true, true, true, true, true, true, true, true, true, true, true, true, true, false, false, false, false, false, false, false, false, false, false, false, false, false, false, false, false, false, false] rfl rfl (by kernel_rfl) (fun _ _ _ h => by cases h.1) (Or.inl ⟨by rfl, ?_⟩) hS ?_ ?_
        rotate_left
        · intro w' hb
          have s0 := hb.cell g0
          have s1 := hb.cell g1
          have s2 := hb.cell g2
          have s3 := hb.cell g3
          have s4 := hb.cell g4
          have s5 := hb.cell g5
          have s6 := hb.cell g6
          have s7 := hb.cell g7
          have s8 := hb.cell g8
          have s9 := hb.cell g9
          have s10 := hb.cell g10
          have s11 := hb.cell g11
          go_simp
          with_reducible rfl
        rotate_left
        · simp only [Act.put, List.setIfInBounds_toArray, List.set_cons_zero, List.set_cons_succ]
          rfl
        refine pure_ (i := 23) (N := some 155) (v := ?_) (a' := ?_) #[true, true, true, true, true, true, true, true, true, true, true, true, true, true, true, true, true, true, true, true, true, true, true, true, false, false, false, false, false, false, false, false, false, false, false, false, false, false, false, false, false] rfl rfl (by kernel_rfl) (fun _ _ _ h => by cases h.1) (Or.inl ⟨by rfl, ?_⟩) ?_ ?_
        rotate_left
        · intro w'
          go_simp
          with_reducible rfl
        rotate_left
        · simp only [Act.put, List.setIfInBounds_toArray, List.set_cons_zero, List.set_cons_succ]
          rfl
        refine one_ (i := 24) (N := some 156) #[true, true, true, true, true, true, true, true, true, true, true, true, true, true, true, true, true, true, true, true, true, true, true, true, true, false, false, false, false, false, false, false, false, false, false, false, false, false, false, false, false] rfl rfl (by kernel_rfl) (by simp) (fun K hK => ?_)
        go_simp
        refine (owner_calls _ _ _ _ _ _ _ _ _ _ C s _ ((HR.out.below HB4.out).below hS)).mono ?_
        rintro e u5 ⟨rfl, hb⟩
        rw [← HOW.out]
        have hS5 : Bz W4 u5 := Below.trans hS (hb.mono hS.size)
        refine hK.out _ _ hS5 (fun _ => ?_)
        clear hK K hb hS
        have hS := hS5
        refine pure_ (i := 25) (N := some 157) (v := ?_) (a' := ?_) #[true, true, true, true, true, true, true, true, true, true, true, true, true, true, true, true, true, true, true, true, true, true, true, true, true, true, false, false, false, false, false, false, false, false, false, false, false, false, false, false, false] rfl rfl (by kernel_rfl) (fun _ _ _ h => by cases h.1) (Or.inl ⟨by rfl, ?_⟩) ?_ ?_
        rotate_left
        · intro w'
          go_simp
          with_reducible rfl
        rotate_left
        · simp only [Act.put, List.setIfInBounds_toArray, List.set_cons_zero, List.set_cons_succ]
          rfl
        refine pure_ (i := 26) (N := some 158) (v := ?_) (a' := ?_) #[true, true, true, true, true, true, true, true, true, true, true, true, true, true, true, true, true, true, true, true, true, true, true, true, true, true, true, false, false, false, false, false, false, false, false, false, false, false, false, false, false] rfl rfl (by kernel_rfl) (fun _ _ _ h => by cases h.1) (Or.inl ⟨by rfl, ?_⟩) ?_ ?_
        rotate_left
        · intro w'
          go_simp
          with_reducible rfl
        rotate_left
        · simp only [Act.put, List.setIfInBounds_toArray, List.set_cons_zero, List.set_cons_succ]
          rfl
        refine pure_ (i := 27) (N := some 159) (v := ?_) (a' := ?_) #[true, true, true, true, true, true, true, true, true, true, true, true, true, true, true, true, true, true, true, true, true, true, true, true, true, true, true, true, false, false, false, false, false, false, false, false, false, false, false, false, false] rfl rfl (by kernel_rfl) (fun _ _ _ h => by cases h.1) (Or.inl ⟨by rfl, ?_⟩) ?_ ?_
        rotate_left
        · intro w'
          go_simp
          with_reducible rfl
        rotate_left
        · simp only [Act.put, List.setIfInBounds_toArray, List.set_cons_zero, List.set_cons_succ]
          rfl
        refine pure_ (i := 28) (N := some 160) (v := ?_) (a' := ?_) #[true, true, true, true, true, true, true, true, true, true, true, true, true, true, true, true, true, true, true, true, true, true, true, true, true, true, true, true, true, false, false, false, false, false, false, false, false, false, false, false, false] rfl rfl (by kernel_rfl) (fun _ _ _ h => by cases h.1) (Or.inl ⟨by rfl, ?_⟩) ?_ ?_
        rotate_left
        · intro w'
          go_simp
          with_reducible rfl
        rotate_left
        · simp only [Act.put, List.setIfInBounds_toArray, List.set_cons_zero, List.set_cons_succ]
          rfl
        refine take_ (i := 29) (N := some 161) (v := ?_) (a' := ?_) #[true, true, true, true, true, true, true, true, true, true, true, true, true, true, true, true, true, true, true, true, true, true, true, true, true, true, true, true, true, true, false, false, false, false, false, false, false, false, false, false, false] rfl rfl (by kernel_rfl) (fun _ _ _ h => by cases h.1) (Or.inl ⟨by rfl, ?_⟩) hS ?_ ?_
        rotate_left
        · intro w' hb
          have s0 := hb.cell x2
          go_simp
          with_reducible rfl
        rotate_left
        · simp only [Act.put, List.setIfInBounds_toArray, List.set_cons_zero, List.set_cons_succ]
          rfl
        refine pure_ (i := 30) (N := some 162) (v := ?_) (a' := ?_) #[true, true, true, true, true, true, true, true, true, true, true, true, true, true, true, true, true, true, true, true, true, true, true, true, true, true, true, true, true, true, true, false, false, false, false, false, false, false, false, false, false] rfl rfl (by kernel_rfl) (fun _ _ _ h => by cases h.1) (Or.inl ⟨by rfl, ?_⟩) ?_ ?_
        rotate_left
        · intro w'
          go_simp
          with_reducible rfl
        rotate_left
        · simp only [Act.put, List.setIfInBounds_toArray, List.set_cons_zero, List.set_cons_succ]
          rfl
        refine take_ (i := 31) (N := some 163) (v := ?_) (a' := ?_) #[true, true, true, true, true, true, true, true, true, true, true, true, true, true, true, true, true, true, true, true, true, true, true, true, true, true, true, true, true, true, true, true, false, false, false, false, false, false, false, false, false] rfl rfl (by kernel_rfl) (fun _ _ _ h => by cases h.1) (Or.inl ⟨by rfl, ?_⟩) hS ?_ ?_
        rotate_left
        · intro w' hb
          have s0 := hb.cell x1
          go_simp
          with_reducible rfl
        rotate_left
        · simp only [Act.put, List.setIfInBounds_toArray, List.set_cons_zero, List.set_cons_succ]
          rfl
        refine pure_ (i := 32) (N := some 164) (v := ?_) (a' := ?_) #[true, true, true, true, true, true, true, true, true, true, true, true, true, true, true, true, true, true, true, true, true, true, true, true, true, true, true, true, true, true, true, true, true, false, false, false, false, false, false, false, false] rfl rfl (by kernel_rfl) (fun _ _ _ h => by cases h.1) (Or.inl ⟨by rfl, ?_⟩) ?_ ?_
        rotate_left
        · intro w'
          go_simp
          with_reducible rfl
        rotate_left
        · simp only [Act.put, List.setIfInBounds_toArray, List.set_cons_zero, List.set_cons_succ]
          rfl
        refine pure_ (i := 33) (N := some 165) (v := ?_) (a' := ?_) #[true, true, true, true, true, true, true, true, true, true, true, true, true, true, true, true, true, true, true, true, true, true, true, true, true, true, true, true, true, true, true, true, true, true, false, false, false, false, false, false, false] rfl rfl (by kernel_rfl) (fun _ _ _ h => by cases h.1) (Or.inl ⟨by rfl, ?_⟩) ?_ ?_
        rotate_left
        · intro w'
          go_simp
          with_reducible rfl
        rotate_left
        · simp only [Act.put, List.setIfInBounds_toArray, List.set_cons_zero, List.set_cons_succ]
          rfl
        refine take_ (i := 34) (N := some 166) (v := ?_) (a' := ?_) #[true, true, true, true, true, true, true, true, true, true, true, true, true, true, true, true, true, true, true, true, true, true, true, true, true, true, true, true, true, true, true, true, true, true, true, false, false, false, false, false, false] rfl rfl (by kernel_rfl) (fun _ _ _ h => by cases h.1) (Or.inl ⟨by rfl, ?_⟩) hS ?_ ?_
        rotate_left
        · intro w' hb
          have s0 := hb.cell k0
          go_simp
          with_reducible rfl
        rotate_left
        · simp only [Act.put, List.setIfInBounds_toArray, List.set_cons_zero, List.set_cons_succ]
          rfl
        refine pure_ (i := 35) (N := some 167) (v := ?_) (a' := ?_) #[true, true, true, true, true, true, true, true, true, true, true, true, true, true, true, true, true, true, true, true, true, true, true, true, true, true, true, true, true, true, true, true, true, true, true, true, false, false, false, false, false] rfl rfl (by kernel_rfl) (fun _ _ _ h => by cases h.1) (Or.inl ⟨by rfl, ?_⟩) ?_ ?_
        rotate_left
        · intro w'
          go_simp
          with_reducible rfl
        rotate_left
        · simp only [Act.put, List.setIfInBounds_toArray, List.set_cons_zero, List.set_cons_succ]
          rfl
        refine take_ (i := 36) (N := some 168) (v := ?_) (a' := ?_) #[true, true, true, true, true, true, true, true, true, true, true, true, true, true, true, true, true, true, true, true, true, true, true, true, true, true, true, true, true, true, true, true, true, true, true, true, true, false, false, false, false] rfl rfl (by kernel_rfl) (fun _ _ _ h => by cases h.1) (Or.inl ⟨by rfl, ?_⟩) hS ?_ ?_
        rotate_left
        · intro w' hb
          have s0 := hb.cell g4
          go_simp
          with_reducible rfl
        rotate_left
        · simp only [Act.put, List.setIfInBounds_toArray, List.set_cons_zero, List.set_cons_succ]
          rfl
        refine pure_ (i := 37) (N := some 169) (v := ?_) (a' := ?_) #[true, true, true, true, true, true, true, true, true, true, true, true, true, true, true, true, true, true, true, true, true, true, true, true, true, true, true, true, true, true, true, true, true, true, true, true, true, true, false, false, false] rfl rfl (by kernel_rfl) (fun _ _ _ h => by cases h.1) (Or.inl ⟨by rfl, ?_⟩) ?_ ?_
        rotate_left
        · intro w'
          go_simp
          with_reducible rfl
        rotate_left
        · simp only [Act.put, List.setIfInBounds_toArray, List.set_cons_zero, List.set_cons_succ]
          rfl
        refine pure_ (i := 38) (N := some 170) (v := ?_) (a' := ?_) #[true, true, true, true, true, true, true, true, true, true, true, true, true, true, true, true, true, true, true, true, true, true, true, true, true, true, true, true, true, true, true, true, true, true, true, true, true, true, true, false, false] rfl rfl (by kernel_rfl) (fun _ _ _ h => by cases h.1) (Or.inl ⟨by rfl, ?_⟩) ?_ ?_
        rotate_left
        · intro w'
          go_simp
          with_reducible rfl
        rotate_left
        · simp only [Act.put, List.setIfInBounds_toArray, List.set_cons_zero, List.set_cons_succ]
          rfl
        refine pure_ (i := 39) (N := some 171) (v := ?_) (a' := ?_) #[true, true, true, true, true, true, true, true, true, true, true, true, true, true, true, true, true, true, true, true, true, true, true, true, true, true, true, true, true, true, true, true, true, true, true, true, true, true, true, true, false] rfl rfl (by kernel_rfl) (fun _ _ _ h => by cases h.1) (Or.inl ⟨by rfl, ?_⟩) ?_ ?_
        rotate_left
        · intro w'
          go_simp
          with_reducible rfl
        rotate_left
        · simp only [Act.put, List.setIfInBounds_toArray, List.set_cons_zero, List.set_cons_succ]
          rfl
        refine pure_ (i := 40) (N := some 172) (v := ?_) (a' := ?_) #[true, true, true, true, true, true, true, true, true, true, true, true, true, true, true, true, true, true, true, true, true, true, true, true, true, true, true, true, true, true, true, true, true, true, true, true, true, true, true, true, true] rfl rfl (by kernel_rfl) (fun _ _ _ h => by cases h.1) (Or.inl ⟨by rfl, ?_⟩) ?_ ?_
        rotate_left
        · intro w'
          go_simp
          with_reducible rfl
        rotate_left
        · simp only [Act.put, List.setIfInBounds_toArray, List.set_cons_zero, List.set_cons_succ]
          rfl
        refine done_ (by kernel_rfl) ?_
        exact ⟨rfl, rfl, hS⟩
      intro W5 hb
      have HB5 := Lib.hid (below_step HB4.out hb)
      have HC5 := Lib.hid (blk_keep hb HC4.out)
      have HK5 := Lib.hid (blk_keep hb HK4.out)
      have HX5 := Lib.hid (blk_keep hb HX4.out)
      have HO5 := Lib.hid (Kd.R_below HO4.out hb)
      have HM5 := Lib.hid (World.ownsMap.kept HM4.out (grown_of_below hb none) (by simp))
      have HZ5 := Lib.hid (Nat.le_trans HZ4.out hb.size)
      have HL5 := Lib.hid (show (L.map (pl C length offset)).length ≤ 60 by rw [List.length_map]; have := HLL.out; omega)
      clear hb HB4 HC4 HK4 HX4 HO4 HM4 HZ4 g0 g1 g2 g3 g4 g5 g6 g7 g8 g9 g10 g11 k0 x0 x1 x2 w1 w2 w3 etf
      have x0 := blk_cell HX5.out 0
      have x1 := blk_cell HX5.out 1
      have x2 := blk_cell HX5.out 2
      go_wp2_with (first | ((with_reducible refine gate_z (b := .append) (xs := #[.tmp 173, .tmp 175]) rfl ?_); at_builtin; refine Kd.R_append k32 (w0 := W5) VM.heap.size rfl (.tmp 173) (.tmp 175) 45 32 (.agg #[.int .i64 0, .int .i64 0, .int .i64 0]) 24 rfl Try.underlying45 info32 rfl (by decide) (by omega) v _ ⟨o, f, t⟩ [.int .i64 o, .int .i64 f, .int .i64 t] (fun _ => True) (fun _ => False) rfl rfl (k32_mkM _ _ _ ⟨o, f, t⟩) (fun _ hk => hk.elim) (fun _ _ => trivial) HO5.out (Below.refl _ _) HZ5.out (by have := HL5.out; omega) ?_; intro v6 W6 ho6 hb6 hg6 hat6; have HO6 := Lib.hid ho6; have HC6 := Lib.hid (blk_grown HC5.out hg6 (Kd.R_ne HO5.out HC5.out (by decide))); have HK6 := Lib.hid (blk_grown HK5.out hg6 (Kd.R_ne HO5.out HK5.out (by decide))); have HM6 := Lib.hid (World.ownsMap.kept HM5.out hg6 (fun he => by have := Kd.R_base HO5.out _ he.symm; have := HMV.out.lt; omega)); have HB6 := Lib.hid (pw_below_grown HB5.out _ HB5.out.size hg6 (fun k' he => by have := Kd.R_base HO5.out k' he; have := HMV.out.lt; have := HLT.out; omega)); have HZ6 := Lib.hid (Nat.le_trans HZ5.out hg6.size); clear ho6 hb6 hg6 hat6))
      clear x0 x1 x2
      go_roundw
      case rel => exact ⟨k + 1, v6, L ++ [(s, a)], by omega, by go_num, rfl, Lib.hid (by rw [List.length_append]; have := HLL.out; simp; omega), Lib.hid (fun p hp => by
        rcases List.mem_append.1 hp with h | h
        · exact HLP.out p h
        · rw [List.mem_singleton.1 h]; exact HPP.out), Lib.hid (by
        rw [List.map_append, List.nodup_append]
        exact ⟨HLN.out, by simp, fun b hb d hd => by simp at hd; subst hd; intro e; subst e; exact HIN.out hb⟩), Lib.hid (by rw [List.map_append]; have := HO6.out; rw [HY.out] at this; exact this), Lib.hid (by rw [seenD_snoc]; exact HM6.out), HZ6, HB6, HC6, HK6⟩
      case measure => simp [intOf]; omega
    · obtain ⟨own, hown⟩ : ∃ own, own = L.map (pl C length offset) := ⟨_, rfl⟩
      rw [← hown] at HO
      have HOWN := Lib.hid hown
      have HLO := Lib.hid (show own.length ≤ 60 by rw [hown, List.length_map]; have := HLL.out; omega)
      have HMY := Lib.hid (show mayW C length offset own = 0 by rw [hown]; exact hon_all HON.out HLP.out)
      have HTH := Lib.hid (show thr C length offset own own.length = List.replicate own.length 0 by rw [hown, List.length_map]; exact hon_thr HON.out HLP.out HLN.out)
      clear hown
      obtain ⟨Ao, co, rfl, hco, hCo⟩ := Kd.R_reads HO.out
      have HCo := Lib.hid hCo
      clear hCo HO
      obtain ⟨g0, g1, g2, g3, g4, g5, g6, g7, g8, g9, g10, g11⟩ := cfg_cells HC.out
      have k0 := blk_cell HK.out 0
      have k1 := blk_cell HK.out 1
      go_wp2_with fail
      refine (through_calls _ _ _ _ _ _ _ _ _ _ C _ (HR.out.below HB.out) length offset Ao co own HCo.out (by have := HLO.out; omega)).mono ?_
      rintro e V2 ⟨v2, rfl, hR2, hb⟩
      rw [HMY.out, if_pos rfl, HTH.out] at hR2
      obtain ⟨A2, d2, rfl, -, hC2⟩ := Kd.R_reads hR2
      rw [List.length_replicate] at hC2
      have HC2 := Lib.hid hC2
      have HBV2 := Lib.hid (below_step HB.out hb)
      have hol : own.length ≤ 60 := HLO.out
      rw [HMY.out, List.length_replicate]
      clear hR2 hC2 hb g0 g1 g2 g3 g4 g5 g6 g7 g8 g9 g10 g11 k0 k1
      go_wp2
      go_loop [199] (fun i => ∃ j : Nat, j ≤ own.length ∧ i = .int .i64 j) (fun i => own.length - (intOf i).toNat)
      case atStart => exact ⟨0, by omega, rfl⟩
      case round =>
        obtain ⟨j, hj, rfl⟩ := hrel
        by_cases hlj : j < own.length
        · obtain ⟨ad1, x, e1, q1, HV1⟩ := at_I (l := List.replicate own.length 0) (by rw [List.length_replicate]; exact HC2.out) j (by rw [List.length_replicate]; exact hlj)
          have hx0 : x = 0 := by have := HV1.out; rw [List.getElem?_replicate, if_pos hlj] at this; injection this with this; exact this.symm
          subst hx0
          subst e1
          go_wp2
          go_round
          case rel => exact ⟨j + 1, by omega, by go_num⟩
          case measure => simp [intOf]; omega
        · go_wp2
          go_ret
          exact ⟨rfl, HBV2.out⟩
end Go.Proofs.Ytloibbfihkfeeaa
